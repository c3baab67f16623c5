/- The evaluator once more, in its tests' order: what is tested stands at the head, the rest behind it; so that it may be run on values that are not known. -/
import Derived.Test.YtihgfpggdkhhaaaAbRowK
set_option linter.unusedVariables false
set_option linter.unusedSimpArgs false
namespace Go.Ab
open Go

section
variable {R : Type}

/-- A test. -/
def bK (b : Bool) (x y : Option R) : Option R := match b with
  | true => x
  | false => y
/-- What may be none. -/
def oK {α : Type} (o : Option α) (k : α → Option R) : Option R := match o with
  | some a => k a
  | none => none

theorem bK_true {x y : Option R} : bK true x y = x := rfl
theorem bK_false {x y : Option R} : bK false x y = y := rfl
theorem oK_some {α : Type} {a : α} {k : α → Option R} : oK (some a) k = k a := rfl
theorem oK_none {α : Type} {k : α → Option R} : oK (none : Option α) k = none := rfl

theorem bK_inv {b : Bool} {x y : Option R} {r : R} (h : bK b x y = some r) : (b = true ∧ x = some r) ∨ (b = false ∧ y = some r) := by
  cases b
  · exact .inr ⟨rfl, h⟩
  · exact .inl ⟨rfl, h⟩
theorem bK_inv1 {b : Bool} {x : Option R} {r : R} (h : bK b x none = some r) : b = true ∧ x = some r := by
  cases b
  · cases h
  · exact ⟨rfl, h⟩
theorem bK_inv0 {b : Bool} {y : Option R} {r : R} (h : bK b none y = some r) : b = false ∧ y = some r := by
  cases b
  · exact ⟨rfl, h⟩
  · cases h
theorem oK_inv {α : Type} {o : Option α} {k : α → Option R} {r : R} (h : oK o k = some r) : ∃ a, o = some a ∧ k a = some r := by
  cases o with
  | none => cases h
  | some a => exact ⟨a, rfl, h⟩

/-- What an element's cells are. -/
inductive Lf where
  | fb
  | fi (k : IntKind)
  | fs
  | fl (agg : Bool) (fs : List Lf)

mutual
@[reducible] def Lf.T : Lf → Type
  | .fb => Bool
  | .fi _ => Int
  | .fs => List UInt8
  | .fl _ fs => Bool × List (Tu fs)
@[reducible] def Tu : List Lf → Type
  | [] => Unit
  | [f] => f.T
  | f :: g :: r => f.T × Tu (g :: r)
end

/-- A value of these cells. -/
def mkA (agg : Bool) (cs : List AV) : AV := match agg with
  | true => .agg cs
  | false => match cs with
    | [v] => v
    | _ => .undef

mutual
def Lf.mk : (f : Lf) → f.T → AV
  | .fb, x => .bool x
  | .fi k, n => .int k n
  | .fs, x => .str x
  | .fl agg fs, p => .slc p.1 (p.2.map fun d => mkA agg (Tu.mk fs d))
def Tu.mk : (fs : List Lf) → Tu fs → List AV
  | [], _ => []
  | [f], d => [f.mk d]
  | f :: g :: r, d => f.mk d.1 :: Tu.mk (g :: r) d.2
end

def mkV (agg : Bool) (fs : List Lf) (d : Tu fs) : AV := mkA agg (Tu.mk fs d)

/-- The cells of a value, of so many. -/
def unA (agg : Bool) (n : Nat) (v : AV) : Option (List AV) := match agg with
  | true => match v with
    | .agg cs => if cs.length = n then some cs else none
    | _ => none
  | false => if n = 1 then match v with
      | .agg _ => none
      | v => some [v]
    else none

mutual
def Lf.dec : (f : Lf) → AV → Option f.T
  | .fb, .bool x => some x
  | .fi k, .int k' n => if k = k' then some n else none
  | .fs, .str x => some x
  | .fl agg fs, .slc x es => match mapO (fun v => match unA agg fs.length v with
      | some cs => Tu.dec fs cs
      | none => none) es with
    | some l => some (x, l)
    | none => none
  | _, _ => none
/-- The first cells. -/
def Tu.dec : (fs : List Lf) → List AV → Option (Tu fs)
  | [], _ => some ()
  | [f], v :: _ => f.dec v
  | f :: g :: r, v :: vs => match f.dec v with
    | some x => match Tu.dec (g :: r) vs with
      | some y => some (x, y)
      | none => none
    | none => none
  | _ :: _, [] => none
end

def decV (agg : Bool) (fs : List Lf) (v : AV) : Option (Tu fs) := match unA agg fs.length v with
  | some cs => Tu.dec fs cs
  | none => none

theorem Tu.mk_length : ∀ (fs : List Lf) (d : Tu fs), (Tu.mk fs d).length = fs.length
  | [], _ => rfl
  | [_], _ => rfl
  | _ :: g :: r, d => by simp [Tu.mk, Tu.mk_length (g :: r)]

theorem unA_mk {agg : Bool} {n : Nat} {v : AV} {cs : List AV} (h : unA agg n v = some cs) : v = mkA agg cs ∧ cs.length = n := by
  cases agg with
  | true =>
    unfold unA at h
    cases v <;> simp at h
    obtain ⟨h1, rfl⟩ := h
    exact ⟨rfl, h1⟩
  | false =>
    unfold unA at h
    simp only at h
    split at h
    · rename_i hn
      split at h
      · cases h
      · cases h; subst hn; exact ⟨rfl, rfl⟩
    · cases h

theorem Lf.mk_cells : ∀ (f : Lf) (x : f.T), (f.mk x).cells = [f.mk x]
  | .fb, _ => rfl
  | .fi _, _ => rfl
  | .fs, _ => rfl
  | .fl _ _, _ => rfl

theorem mapO_some {α β : Type} {f : α → Option β} {g : β → α} (hf : ∀ a b, f a = some b → a = g b) : ∀ {l : List α} {r : List β}, mapO f l = some r → l = r.map g
  | [], r, h => by cases h; rfl
  | a :: l, r, h => by
    unfold mapO at h
    split at h
    · rename_i b hb
      split at h
      · rename_i bs hbs
        cases h
        rw [List.map_cons, ← hf a b hb, ← mapO_some hf hbs]
      · cases h
    · cases h

mutual
theorem Lf.dec_mk : ∀ {f : Lf} {v : AV} {x : f.T}, f.dec v = some x → v = f.mk x
  | .fb, v, x, h => by cases v <;> simp [Lf.dec] at h; subst h; rfl
  | .fi k, v, x, h => by
    cases v <;> simp [Lf.dec] at h
    obtain ⟨rfl, rfl⟩ := h
    rfl
  | .fs, v, x, h => by cases v <;> simp [Lf.dec] at h; subst h; rfl
  | .fl agg fs, v, x, h => by
    cases v <;> simp only [Lf.dec] at h <;> try (cases h; done)
    split at h
    · rename_i l hl
      cases h
      simp only [Lf.mk]
      congr 1
      refine mapO_some (fun a b hab => ?_) hl
      split at hab
      · rename_i cs hcs
        obtain ⟨h1, h2⟩ := unA_mk hcs
        obtain ⟨h3, h4⟩ := Tu.dec_mk hab
        rw [h1, ← h3, ← h2, List.take_length]
      · cases hab
    · cases h
theorem Tu.dec_mk : ∀ {fs : List Lf} {vs : List AV} {d : Tu fs}, Tu.dec fs vs = some d → vs.take fs.length = Tu.mk fs d ∧ fs.length ≤ vs.length
  | [], _, _, _ => by simp [Tu.mk]
  | [f], [], _, h => by simp [Tu.dec] at h
  | [f], v :: vs, d, h => by simp [Tu.mk, Lf.dec_mk h]
  | f :: g :: r, [], _, h => by simp [Tu.dec] at h
  | f :: g :: r, v :: vs, d, h => by
    simp only [Tu.dec] at h
    split at h
    · rename_i x hx
      split at h
      · rename_i y hy
        cases h
        obtain ⟨h1, h2⟩ := Tu.dec_mk hy
        simp only [List.length_cons] at h1 h2 ⊢
        simp [Tu.mk, h1, Lf.dec_mk hx, h2]
      · cases h
    · cases h
end

theorem decV_mk {agg : Bool} {fs : List Lf} {v : AV} {d : Tu fs} (h : decV agg fs v = some d) : v = mkV agg fs d := by
  unfold decV at h
  split at h
  · rename_i cs hcs
    obtain ⟨h1, h2⟩ := unA_mk hcs
    obtain ⟨h3, h4⟩ := Tu.dec_mk h
    unfold mkV
    rw [h1, ← h3, ← h2, List.take_length]
  · cases h

/-- An element of a list. -/
def elemAt (agg : Bool) (fs : List Lf) (es : List AV) (n : Int) : Option (Tu fs) :=
  if 0 ≤ n then match es[n.toNat]? with
    | some v => decV agg fs v
    | none => none
  else none

theorem mkV_scalar {f : Lf} {d : Tu [f]} : mkV false [f] d = f.mk d := by simp [mkV, mkA, Tu.mk]

theorem decV_cells {agg : Bool} {fs : List Lf} {v : AV} {d : Tu fs} (h : decV agg fs v = some d) : (mkV agg fs d).cells.length = fs.length := by
  cases agg with
  | true => simp [mkV, mkA, AV.cells, Tu.mk_length]
  | false =>
    unfold decV at h
    split at h
    · rename_i cs hcs
      obtain ⟨h1, h2⟩ := unA_mk hcs
      have : fs.length = 1 := by
        unfold unA at hcs
        simp only at hcs
        split at hcs
        · assumption
        · cases hcs
      match fs, this with
      | [f], _ => rw [mkV_scalar, Lf.mk_cells]; rfl
    · cases h

theorem elemAt_ok {agg : Bool} {fs : List Lf} {es : List AV} {n : Int} {d : Tu fs} (h : elemAt agg fs es n = some d) : 0 ≤ n ∧ es[n.toNat]? = some (mkV agg fs d) ∧ (mkV agg fs d).cells.length = fs.length := by
  unfold elemAt at h
  split at h
  · rename_i h0
    refine ⟨h0, ?_⟩
    split at h
    · rename_i v hv
      exact ⟨by rw [hv, decV_mk h], decV_cells h⟩
    · cases h
  · cases h

/-- A part of an element of a row, of a box. -/
def ldCells (fs : List Lf) (cs : List AV) (off : Nat) : Option (Tu fs) := Tu.dec fs (cs.drop off)
def ldRow (fs : List Lf) (es : List AV) (i off : Nat) : Option (Tu fs) := match es[i]? with
  | some e => ldCells fs e.cells off
  | none => none
/-- A row with a part of an element turned. -/
def stRow (es : List AV) (i off : Nat) (xs : List AV) : Option (List AV) := match es[i]? with
  | some e => match splice e.cells off xs with
    | some cs => some (es.set i (e.recell cs))
    | none => none
  | none => none

theorem ldCells_part {P : Program} {t : TypeId} {fs : List Lf} {cs : List AV} {off : Nat} {agg : Bool} (ha : isAggT P t = some agg) (hl : fs.length = P.cellsOf t) (hz : P.cellsOf t ≠ 0) (hs : agg = true ∨ fs.length = 1) {d : Tu fs}
    (h : ldCells fs cs off = some d) : part P t cs off = some (mkV agg fs d) := by
  obtain ⟨h1, h2⟩ := Tu.dec_mk h
  rw [List.length_drop] at h2
  unfold part
  rw [ha]
  cases agg with
  | true =>
    have : off + P.cellsOf t ≤ cs.length := by omega
    simp only [this, if_true, mkV, mkA]
    rw [← hl, h1]
  | false =>
    have hf : fs.length = 1 := by simpa using hs
    match fs, hf with
    | [f], _ =>
      simp only [mkV_scalar, Tu.mk, List.length_cons, List.length_nil] at h1 ⊢
      have : off < cs.length := by simp at h2; omega
      have h3 := congrArg (·[0]?) h1
      simpa [List.getElem?_take, List.getElem?_drop] using h3

/-! The operations. -/

/-- The kinds of a type's cells. -/
def leafs (P : Program) : Nat → TypeId → Option (List Lf)
  | 0, _ => none
  | d + 1, t => match P.underlying t with
    | some .bool => some [.fb]
    | some (.int k) => some [.fi k]
    | some .string => some [.fs]
    | some (.slice e) => match leafs P d e, isAggT P e with
      | some l, some agg => some [.fl agg l]
      | _, _ => none
    | some (.struct fs) => fs.toList.foldr (fun f r => match r, leafs P d f.type with
      | some r, some l => some (l ++ r)
      | _, _ => none) (some [])
    | some (.array n e) => match leafs P d e with
      | some l => some (List.replicate n l).flatten
      | none => none
    | _ => none

def loadK (P : Program) (bs : List (Nat × Blk)) (t : TypeId) (p : AV) (K : Res → Option R) : Option R :=
  match p with
  | .ptr b v i off => match ldBlk bs b v with
    | some x => match isAggT P t, leafs P 10 t with
      | some agg, some fs =>
        if fs.length = P.cellsOf t ∧ P.cellsOf t ≠ 0 ∧ (agg || fs.length == 1) = true then
          match x.k with
          | .row => oK (ldRow fs x.es i off) fun d => K (.val (mkV agg fs d) [])
          | .box => if i = 0 then match aLoad P bs t p with
              | some v => K (.val v [])
              | none => none
            else none
          | .dead => none
        else match aLoad P bs t p with
          | some v => K (.val v [])
          | none => none
      | _, _ => match aLoad P bs t p with
        | some v => K (.val v [])
        | none => none
    | none => none
  | _ => match aLoad P bs t p with
    | some v => K (.val v [])
    | none => none

def storeK (P : Program) (bs : List (Nat × Blk)) (t : TypeId) (p x : AV) (K : Res → Option R) : Option R :=
  match p with
  | .ptr b v i off => match ldBlk bs b v with
    | some blk => match blk.k with
      | .row => if x.cells.length = P.cellsOf t ∧ x.cells.all AV.okC = true ∧ (P.info? t).isSome = true then
          if blk.fz then none else
          match mapO (pureC bs) x.cells with
          | some xs => if (rowsA x).contains b then none else oK (stRow blk.es i off xs) fun es => K (.val .skp ((b, { blk with es := es }) :: freeze bs (rowsA x)))
          | none => none
        else none
      | _ => match aStore P bs t p x with
        | some ds => K (.val .skp ds)
        | none => none
    | none => none
  | _ => none

def binK (P : Program) (op : BinOp) (t : TypeId) (x y : AV) (K : Res → Option R) : Option R :=
  match x, y with
  | .str a, .str b => match op with
    | .add => bK (decide (a.length + b.length < 1000000000)) (K (.val (.str (a ++ b)) [])) none
    | _ => match aBin P op t (.str a) (.str b) with
      | some v => K (.val v [])
      | none => none
  | .int k a, .int k' b => match op with
    | .quo => if k = k' then bK (decide (b = 0)) none (K (.val (.int k (k.wrap (a.tdiv b))) [])) else none
    | .rem => if k = k' then bK (decide (b = 0)) none (K (.val (.int k (a.tmod b)) [])) else none
    | .shl => bK (decide (b < 0)) none (K (.val (.int k (k.wrap (a * 2 ^ (min b.toNat k.bits)))) []))
    | .shr => bK (decide (b < 0)) none (K (.val (.int k (a.fdiv (2 ^ (min b.toNat k.bits)))) []))
    | _ => match aBin P op t (.int k a) (.int k' b) with
      | some v => K (.val v [])
      | none => none
  | x, y => match aBin P op t x y with
    | some v => K (.val v [])
    | none => none

def elemsK (bs : List (Nat × Blk)) (x : AV) (K : List AV → Option R) : Option R :=
  match x with
  | .sref b v off len => match ldBlk bs b v with
    | some y => if y.k = .row then bK (decide (off + len ≤ y.es.length)) (K ((y.es.drop off).take len)) none else none
    | none => none
  | x => match elemsOf bs x with
    | some es => K es
    | none => none

def convK (P : Program) (bs : List (Nat × Blk)) (d : Option Tmp) (src dst : TypeId) (x : AV) (K : Res → Option R) : Option R :=
  match x with
  | .str s => match P.underlying dst with
    | some (.slice e) => match P.underlying e with
      | some (.int .u8) => if (P.underlying src).isSome then
          bK (decide (s.length < 1000000000)) (match newRow bs d 1 (s.map fun c => .int .u8 c.toNat) [] with
            | some r => K r
            | none => none) none
        else none
      | _ => none
    | _ => match aConv P bs d src dst (.str s) with
      | some r => K r
      | none => none
  | .int k n => match aConv P bs d src dst (.int k n) with
    | some r => K r
    | none => none
  | x => match P.underlying src with
    | some (.slice e) => match P.underlying dst with
      | some .string => match P.underlying e with
        | some (.int .u8) => elemsK bs x fun es => oK (bytesOf? es) fun l => K (.val (.str l) [])
        | _ => none
      | _ => match aConv P bs d src dst x with
        | some r => K r
        | none => none
    | _ => none

def boundK (d : Nat) (o : Option AV) (K : Nat → Option R) : Option R :=
  match o with
  | none => K d
  | some (.int _ n) => bK (decide (0 ≤ n)) (K n.toNat) none
  | some _ => none

def sliceK (P : Program) (bs : List (Nat × Blk)) (t : TypeId) (x : AV) (lo hi mx : Option AV) (K : Res → Option R) : Option R :=
  match mx with
  | some m => boundK 0 lo fun l => match x with
    | .slc c es => match P.underlying t with
      | some (.slice e) => if P.cellsOf e ≠ 0 ∧ hi.isSome = true then bK (es.all (fun y => decide (y.cells.length = P.cellsOf e))) (boundK es.length hi fun h => boundK 0 (some m) fun m =>
          bK (decide (l ≤ h ∧ h ≤ m ∧ m ≤ es.length)) (K (.val (.slc (decide (h = m)) ((es.drop l).take (h - l))) [])) none) none else none
      | _ => none
    | .sref b v off len => match P.underlying t with
      | some (.slice e) => match ldBlk bs b v with
        | some x => if x.k = .row ∧ x.sz = P.cellsOf e ∧ P.cellsOf e ≠ 0 ∧ hi.isSome = true then
            boundK len hi fun h => boundK 0 (some m) fun m => bK (decide (l ≤ h ∧ h ≤ m ∧ off + m ≤ x.es.length)) (bK (decide (m = l)) (K (.val (.slc true []) [])) (K (.val .undef []))) none
          else none
        | none => none
      | _ => none
    | _ => none
  | none => boundK 0 lo fun l => match x with
    | .str s => match P.underlying t with
      | some .string => boundK s.length hi fun h => bK (decide (l ≤ h ∧ h ≤ s.length)) (K (.val (.str ((s.drop l).take (h - l))) [])) none
      | _ => none
    | .slc c es => match P.underlying t with
      | some (.slice e) => if P.cellsOf e ≠ 0 then bK (es.all (fun y => decide (y.cells.length = P.cellsOf e))) (boundK es.length hi fun h =>
          bK (decide (l ≤ h ∧ h ≤ es.length)) (K (.val (.slc (c && decide (h = es.length)) ((es.drop l).take (h - l))) [])) none) none else none
      | _ => none
    | .sref b v off len => match P.underlying t with
      | some (.slice e) => match ldBlk bs b v with
        | some x => if x.k = .row ∧ x.sz = P.cellsOf e ∧ P.cellsOf e ≠ 0 then
            boundK len hi fun h => bK (decide (l ≤ h ∧ off + h ≤ x.es.length)) (bK (decide (l = 0 ∨ off + l < x.es.length)) (K (.val (.sref b v (off + l) (h - l)) [])) (K (.val (.slc false []) []))) none
          else none
        | none => none
      | _ => none
    | _ => none

/-- Which of so many. -/
def splitK (n : Int) : Nat → Nat → (Nat → Option R) → Option R
  | 0, _, _ => none
  | len + 1, i, K => bK (decide (n = (i : Int))) (K i) (splitK n len (i + 1) K)

def idxAddrK (P : Program) (bs : List (Nat × Blk)) (t : TypeId) (x i : AV) (K : Res → Option R) : Option R :=
  match P.underlying t with
  | some (.slice e) => match x, i with
    | .slc _ es, .int _ n => match isAggT P e, leafs P 10 e with
      | some agg, some fs => if fs.length = P.cellsOf e ∧ P.cellsOf e ≠ 0 then oK (elemAt agg fs es n) fun d => K (.val (.eptr (mkV agg fs d) 0) []) else none
      | _, _ => match aIndexAddr P bs t x i with
        | some v => K (.val v [])
        | none => none
    | .sref b v off len, .int _ n => match ldBlk bs b v with
      | some x => if x.k = .row ∧ x.sz = P.cellsOf e ∧ P.cellsOf e ≠ 0 then bK (decide (0 ≤ n ∧ n < len)) (K (.val (.ptr b v (off + n.toNat) 0) [])) none else none
      | none => none
    | _, _ => none
  | some (.array len e) => match i with
    | .int _ n => if P.cellsOf e ≠ 0 then match x with
        | .ptr b v j off => match cellsAt bs (.ptr b v j off) with
          | some _ => splitK n len 0 fun k => K (.val (.ptr b v j (off + k * P.cellsOf e)) [])
          | none => none
        | .eptr el off => splitK n len 0 fun k => K (.val (.eptr el (off + k * P.cellsOf e)) [])
        | _ => none
      else none
    | _ => none
  | _ => none

def idxK (P : Program) (t : TypeId) (x i : AV) (K : Res → Option R) : Option R :=
  match i with
  | .int _ n => match P.underlying t with
    | some (.array len e) => match x with
      | .agg cs => splitK n len 0 fun k => match part P e cs (k * P.cellsOf e) with
        | some v => K (.val v [])
        | none => none
      | _ => none
    | some .string => match x with
      | .str s => bK (decide (0 ≤ n)) (oK (s[n.toNat]?) fun b => K (.val (.int .u8 b.toNat) [])) none
      | _ => none
    | _ => none
  | _ => none

def lenK (P : Program) (bs : List (Nat × Blk)) (t : TypeId) (x : AV) (K : Res → Option R) : Option R :=
  match x with
  | .sref b v off len => match P.underlying t with
    | some (.slice _) => match ldBlk bs b v with
      | some y => if y.k = .row then bK (decide (off + len ≤ y.es.length)) (K (.val (.int .i64 len) [])) none else none
      | none => none
    | _ => none
  | x => match aLen P bs t x with
    | some v => K (.val v [])
    | none => none

def appGoK (P : Program) (ip : Bool) (bs : List (Nat × Blk)) (d : Option Tmp) (e : TypeId) (s : AV) (K : Res → Option R) (xs : List AV) : Option R :=
      if P.cellsOf e ≠ 0 ∧ (zeroOf P e).isSome = true then
      bK (xs.all fun y => decide (y.cells.length = P.cellsOf e)) (match s with
      | .slc c es => bK xs.isEmpty (K (.val s [])) (bK (c && bytesFit P e (es.length + xs.length) && es.all (fun y => decide (y.cells.length = P.cellsOf e))) (match newRow bs d (P.cellsOf e) (es ++ xs) [] with
          | some r => K r
          | none => none) none)
      | .sref b v off len => match ldBlk bs b v with
        | some blk => if blk.k = .row ∧ blk.sz = P.cellsOf e then
            bK (decide (off + len ≤ blk.es.length)) (bK xs.isEmpty (K (.val s [])) (if blk.fz = true then none else
              bK (decide (off = 0 ∧ len = blk.es.length) && bytesFit P e (len + xs.length)) (match keyOf d with
                | some k => K (.val (.sref k (nextV bs k) 0 (len + xs.length)) ((k, { v := nextV bs k, k := .row, fz := false, sz := blk.sz, es := blk.es.take len ++ xs }) :: (if k = b then [] else [(b, { blk with k := .dead })])))
                | none => none) (match ip with
                | true => bK (decide (off + len + xs.length ≤ blk.es.length)) (K (.val (.sref b v off (len + xs.length)) [(b, { blk with es := blk.es.take (off + len) ++ (xs ++ blk.es.drop (off + len + xs.length)) })])) none
                | false => none))) none
          else none
        | none => none
      | _ => none) none
      else none

def appendK (P : Program) (ip : Bool) (bs : List (Nat × Blk)) (d : Option Tmp) (sT xT : TypeId) (s x : AV) (K : Res → Option R) : Option R :=
  match P.underlying sT with
  | some (.slice e) =>
    match P.underlying xT with
    | some .string => match x with
      | .str y => appGoK P ip bs d e s K (y.map fun c => .int .u8 c.toNat)
      | _ => none
    | some (.slice _) => match x with
      | .str _ => none
      | x => elemsK bs x (appGoK P ip bs d e s K)
    | _ => none
  | _ => none

def mkSliceK (P : Program) (bs : List (Nat × Blk)) (d : Option Tmp) (t : TypeId) (l c : AV) (K : Res → Option R) : Option R :=
  match P.underlying t with
  | some (.slice e) => match l, c with
    | .int _ n, .int _ m => match zeroOf P e with
      | some z => if P.cellsOf e ≠ 0 then bK (decide (n = m ∧ 0 ≤ n ∧ n ≤ 1000000000) && bytesFit P e n.toNat) (match newRow bs d (P.cellsOf e) (List.replicate n.toNat z) [] with
          | some r => K r
          | none => none) none else none
      | none => none
    | _, _ => none
  | _ => none

/-- One of some, by tests. -/
inductive Alt (α : Type) where
  | leaf (a : α)
  | ite (b : Bool) (x y : Alt α)

def Alt.val {α : Type} : Alt α → α
  | .leaf a => a
  | .ite b x y => if b then x.val else y.val

def altK {α : Type} : Alt α → (α → Option R) → Option R
  | .leaf a, K => K a
  | .ite b x y, K => bK b (altK x K) (altK y K)

theorem altK_ok {α : Type} : ∀ {x : Alt α} {K : α → Option R} {r : R}, altK x K = some r → K x.val = some r
  | .leaf a, K, r, h => h
  | .ite b x y, K, r, h => by
    unfold altK at h
    unfold Alt.val
    rcases bK_inv h with ⟨h1, h2⟩ | ⟨h1, h2⟩
    · rw [h1]; exact altK_ok h2
    · rw [h1]; exact altK_ok h2

/-- What is told of a function. -/
structure PK where
  D : Type
  dec : List AV → List Blk → Option D
  out : D → Alt Ret

def PK.G (p : PK) (args : List AV) (out : List Blk) : Option Ret :=
  match p.dec args out with
  | some d => some (p.out d).val
  | none => none

abbrev CallK (R : Type) := FuncId → List AV → List Blk → (Ret → Option R) → Option R

def mapK {α β : Type} (f : α → (β → Option R) → Option R) : List α → (List β → Option R) → Option R
  | [], K => K []
  | a :: r, K => f a fun b => mapK f r fun l => K (b :: l)

theorem mapK_ok {α β : Type} {f : α → (β → Option R) → Option R} {g : α → Option β} (hf : ∀ a K r, f a K = some r → ∃ b, g a = some b ∧ K b = some r) : ∀ {l : List α} {K : List β → Option R} {r : R}, mapK f l K = some r → ∃ bs, mapO g l = some bs ∧ K bs = some r
  | [], K, r, h => ⟨[], rfl, h⟩
  | a :: l, K, r, h => by
    unfold mapK at h
    obtain ⟨b, h1, h2⟩ := hf _ _ _ h
    obtain ⟨bs, h3, h4⟩ := mapK_ok hf h2
    exact ⟨b :: bs, by simp only [mapO, h1, h3], h4⟩

def renCK (m : Nat → Nat → Option Nm) (a : AV) (K : AV → Option R) : Option R :=
  match a with
  | .sref b v off len => match m b v with
    | some (.key b' v') => K (.sref b' v' off len)
    | some (.row es) => bK (decide (off + len ≤ es.length)) (K (.slc false ((es.drop off).take len))) none
    | none => none
  | a => match renC m a with
    | some b => K b
    | none => none

theorem om_inv {x : Option AV} {K : AV → Option R} {r : R} (h : (match x with | some v => K v | none => none) = some r) : ∃ v, x = some v ∧ K v = some r := by
  cases x with
  | none => cases h
  | some v => exact ⟨v, rfl, h⟩

theorem renCK_ok {m : Nat → Nat → Option Nm} (a : AV) (K : AV → Option R) (r : R) (h : renCK m a K = some r) : ∃ b, renC m a = some b ∧ K b = some r := by
  unfold renCK at h
  split at h
  · split at h
    · rename_i hm
      exact ⟨_, by simp only [renC, hm], h⟩
    · rename_i hm
      obtain ⟨h1, h2⟩ := bK_inv1 h
      exact ⟨_, by simp only [renC, hm]; rw [if_pos (of_decide_eq_true h1)], h2⟩
    · cases h
  · exact om_inv h

def renDK (m : Nat → Nat → Option Nm) (a : AV) (K : AV → Option R) : Option R :=
  match a with
  | .fn f fs cs => match renD m (.fn f fs cs) with
    | some b => K b
    | none => none
  | a => renCK m a K

theorem renDK_ok {m : Nat → Nat → Option Nm} (a : AV) (K : AV → Option R) (r : R) (h : renDK m a K = some r) : ∃ b, renD m a = some b ∧ K b = some r := by
  unfold renDK at h
  split at h
  · exact om_inv h
  · rename_i hn
    obtain ⟨b, h1, h2⟩ := renCK_ok _ _ _ h
    refine ⟨b, ?_, h2⟩
    unfold renD
    split
    · exact absurd rfl (hn _ _ _)
    · exact h1

def renAK (m : Nat → Nat → Option Nm) (a : AV) (K : AV → Option R) : Option R :=
  match a with
  | .agg cs => mapK (renDK m) cs fun l => K (.agg l)
  | a => renDK m a K

theorem renAK_ok {m : Nat → Nat → Option Nm} (a : AV) (K : AV → Option R) (r : R) (h : renAK m a K = some r) : ∃ b, renA m a = some b ∧ K b = some r := by
  unfold renAK at h
  split at h
  · obtain ⟨l, h1, h2⟩ := mapK_ok renDK_ok h
    exact ⟨_, by simp only [renA, h1], h2⟩
  · rename_i hn
    obtain ⟨b, h1, h2⟩ := renDK_ok _ _ _ h
    refine ⟨b, ?_, h2⟩
    unfold renA
    split
    · exact absurd rfl (hn _)
    · exact h1

def renTK (m : Nat → Nat → Option Nm) (a : AV) (K : AV → Option R) : Option R :=
  match a with
  | .tup vs => mapK (renAK m) vs fun l => K (.tup l)
  | a => renAK m a K

theorem renTK_ok {m : Nat → Nat → Option Nm} (a : AV) (K : AV → Option R) (r : R) (h : renTK m a K = some r) : ∃ b, renT m a = some b ∧ K b = some r := by
  unfold renTK at h
  split at h
  · obtain ⟨l, h1, h2⟩ := mapK_ok renAK_ok h
    exact ⟨_, by simp only [renT, h1], h2⟩
  · rename_i hn
    obtain ⟨b, h1, h2⟩ := renAK_ok _ _ _ h
    refine ⟨b, ?_, h2⟩
    unfold renT
    split
    · exact absurd rfl (hn _)
    · exact h1

def pureCK (bs : List (Nat × Blk)) (a : AV) (K : AV → Option R) : Option R :=
  match a with
  | .eptr _ _ => none
  | .ptr _ _ _ _ => none
  | a => renCK (pureM bs) a K

theorem pureCK_ok {bs : List (Nat × Blk)} (a : AV) (K : AV → Option R) (r : R) (h : pureCK bs a K = some r) : ∃ b, pureC bs a = some b ∧ K b = some r := by
  unfold pureCK at h
  split at h
  · cases h
  · cases h
  · rename_i h1 h2
    obtain ⟨b, h3, h4⟩ := renCK_ok _ _ _ h
    refine ⟨b, ?_, h4⟩
    unfold pureC
    split
    · exact absurd rfl (h1 _ _)
    · exact absurd rfl (h2 _ _ _ _)
    · exact h3

def pureAK (bs : List (Nat × Blk)) (a : AV) (K : AV → Option R) : Option R :=
  match a with
  | .agg cs => mapK (pureCK bs) cs fun l => K (.agg l)
  | a => pureCK bs a K

theorem pureAK_ok {bs : List (Nat × Blk)} (a : AV) (K : AV → Option R) (r : R) (h : pureAK bs a K = some r) : ∃ b, pureA bs a = some b ∧ K b = some r := by
  unfold pureAK at h
  split at h
  · obtain ⟨l, h1, h2⟩ := mapK_ok pureCK_ok h
    exact ⟨_, by simp only [pureA, h1], h2⟩
  · rename_i hn
    obtain ⟨b, h1, h2⟩ := pureCK_ok _ _ _ h
    refine ⟨b, ?_, h2⟩
    unfold pureA
    split
    · exact absurd rfl (hn _)
    · exact h1

def argOfK (bs : List (Nat × Blk)) (byref : Bool) (v : AV) (K : AV → Option R) : Option R :=
  if byref then K v else
  match v with
  | .ptr b w i off => K (.ptr b w i off)
  | .fn f fs cs => K (.fn f fs cs)
  | v => pureAK bs v K

theorem argOfK_ok {bs : List (Nat × Blk)} {byref : Bool} (a : AV) (K : AV → Option R) (r : R) (h : argOfK bs byref a K = some r) : ∃ b, argOf bs byref a = some b ∧ K b = some r := by
  unfold argOfK at h
  split at h
  · rename_i hb
    exact ⟨a, by simp only [argOf, hb, if_true], h⟩
  · rename_i hb
    split at h
    · exact ⟨_, by simp only [argOf, hb, if_false, Bool.false_eq_true], h⟩
    · exact ⟨_, by simp only [argOf, hb, if_false, Bool.false_eq_true], h⟩
    · rename_i h1 h2
      obtain ⟨b, h3, h4⟩ := pureAK_ok _ _ _ h
      refine ⟨b, ?_, h4⟩
      unfold argOf
      rw [if_neg hb]
      split
      · exact absurd rfl (h1 _ _ _ _)
      · exact absurd rfl (h2 _ _ _)
      · exact h3

def callInK (bs : List (Nat × Blk)) (byref : Bool) (args : List AV) (K : List AV × List Nat × List Blk → Option R) : Option R :=
  mapK (argOfK bs byref) args fun args1 =>
    let ks := closeR bs 3 (addNew [] (args1.flatMap refsA))
    match mapO (renA (nameM bs ks outBase)) args1 with
    | none => none
    | some args2 => match mapN (renAt bs (nameM bs ks outBase)) ks with
      | none => none
      | some out => if (args.flatMap (argRows byref)).all (fun b => !ks.contains b) then K (args2, ks, out) else none

theorem callInK_ok {bs : List (Nat × Blk)} {byref : Bool} {args : List AV} {K : List AV × List Nat × List Blk → Option R} {r : R} (h : callInK bs byref args K = some r) : ∃ b, callIn bs byref args = some b ∧ K b = some r := by
  unfold callInK at h
  obtain ⟨args1, h1, h2⟩ := mapK_ok argOfK_ok h
  unfold callIn
  simp only [h1]
  simp only at h2
  split at h2
  · cases h2
  · rename_i args2 h3
    simp only [h3]
    split at h2
    · cases h2
    · rename_i out h4
      simp only [h4]
      split at h2
      · rename_i h5
        exact ⟨_, by rw [if_pos h5], h2⟩
      · cases h2

def renBlkK (m : Nat → Nat → Option Nm) (x : Blk) (K : Blk → Option R) : Option R :=
  match x.k with
  | .dead => K { v := 0, k := .dead, fz := x.fz, sz := x.sz, es := [] }
  | .row => K { v := 0, k := .row, fz := x.fz, sz := x.sz, es := x.es }
  | .box => mapK (renDK m) x.es fun es => K { v := 0, k := .box, fz := x.fz, sz := x.sz, es := es }

theorem renBlkK_ok {m : Nat → Nat → Option Nm} {x : Blk} {K : Blk → Option R} {r : R} (h : renBlkK m x K = some r) : ∃ b, renBlk m x = some b ∧ K b = some r := by
  unfold renBlkK at h
  unfold renBlk
  split at h
  · rename_i hk; simp only [hk]; exact ⟨_, rfl, h⟩
  · rename_i hk; simp only [hk]; exact ⟨_, rfl, h⟩
  · rename_i hk
    obtain ⟨es, h1, h2⟩ := mapK_ok renDK_ok h
    simp only [hk, h1]
    exact ⟨_, rfl, h2⟩

def backOutK (bs : List (Nat × Blk)) (m : Nat → Nat → Option Nm) : List Nat → List Blk → (List (Nat × Blk) → Option R) → Option R
  | [], [], K => K []
  | k :: ks, x :: xs, K =>
    match look bs k with
    | some y => renBlkK m x fun z => backOutK bs m ks xs fun r => K ((k, { z with v := y.v }) :: r)
    | none => none
  | _, _, _ => none

theorem backOutK_ok {bs : List (Nat × Blk)} {m : Nat → Nat → Option Nm} : ∀ {ks : List Nat} {xs : List Blk} {K : List (Nat × Blk) → Option R} {r : R}, backOutK bs m ks xs K = some r → ∃ o, backOut bs m ks xs = some o ∧ K o = some r
  | [], [], K, r, h => ⟨_, rfl, h⟩
  | k :: ks, x :: xs, K, r, h => by
    unfold backOutK at h
    unfold backOut
    split at h
    · rename_i y hy
      simp only [hy]
      obtain ⟨z, h1, h2⟩ := renBlkK_ok h
      obtain ⟨o, h3, h4⟩ := backOutK_ok h2
      simp only [h1, h3]
      exact ⟨_, rfl, h4⟩
    · cases h
  | [], _ :: _, K, r, h => by simp [backOutK] at h
  | _ :: _, [], K, r, h => by simp [backOutK] at h

/-- What comes back, where it is known what is frozen. -/
def callOut1 (bs : List (Nat × Blk)) (thaw : Bool) (d : Option Tmp) (ks : List Nat) (fr : List (Nat × Blk)) (r : Ret) (K : Res → Option R) : Option R :=
  let full := (thaw || r.new.any fun x => decide (x.k = .box)) && d.isSome
  let m := backM bs ks r full (d.getD 0)
  if (r.out.length ≤ 1000 ∧ (r.out.all fun x => decide (x.v = 0)) = true ∧ (r.new.all fun x => decide (x.v = 0)) = true) then
    renTK m r.res fun res => backOutK bs m ks r.out fun o =>
      match (if full then (if r.new.length ≤ 16 then backNew bs m (d.getD 0) 0 r.new else none) else some []) with
      | none => none
      | some n => bK r.pan (K (.pan res (n ++ (o ++ fr)))) (K (.val res (n ++ (o ++ fr))))
  else none

def callValK (cfg : Cfg) (callK : CallK R) (bs : List (Nat × Blk)) (d : Option Tmp) (f : FuncId) (args : List AV) (K : Res → Option R) : Option R :=
  callInK bs (cfg.byref f) args fun x => callK f x.1 x.2.2 fun r => match args.flatMap (argRows (cfg.byref f)) with
    | [] => callOut1 bs (cfg.thaw f) d x.2.1 [] r K
    | b :: l => bK (r.res.noSlc && allNoSlc r.out && allNoSlc r.new) (callOut1 bs (cfg.thaw f) d x.2.1 [] r K) (callOut1 bs (cfg.thaw f) d x.2.1 (freeze bs (b :: l)) r K)

theorem callOut1_ok {bs : List (Nat × Blk)} {thaw : Bool} {d : Option Tmp} {ks l : List Nat} {q : Ret} {fr : List (Nat × Blk)} (hfr : (if q.res.noSlc && allNoSlc q.out && allNoSlc q.new then [] else freeze bs l) = fr)
    {K : Res → Option R} {r : R} (h : callOut1 bs thaw d ks fr q K = some r) : ∃ v, callOut bs thaw d ks l q = some v ∧ K v = some r := by
  subst hfr
  unfold callOut1 at h
  unfold callOut
  simp only at h ⊢
  split at h
  · rename_i hc
    rw [if_pos hc]
    obtain ⟨res, h1, h2⟩ := renTK_ok _ _ _ h
    simp only [h1]
    obtain ⟨o, ho, h2⟩ := backOutK_ok h2
    simp only [ho]
    split at h2
    · cases h2
    · rename_i n hn
      simp only [hn]
      rcases bK_inv h2 with ⟨h3, h4⟩ | ⟨h3, h4⟩
      · simp only [h3, if_true]
        exact ⟨_, rfl, h4⟩
      · simp only [h3, Bool.false_eq_true, if_false]
        exact ⟨_, rfl, h4⟩
  · cases h

/-- A field's address. -/
def fieldAddrK (P : Program) (bs : List (Nat × Blk)) (s : TypeId) (x : AV) (f : Nat) (K : Res → Option R) : Option R :=
  match x with
  | .ptr b v j off => match ldBlk bs b v with
    | some blk => match blk.k with
      | .row => match P.underlying s with
        | some (.struct fs) => match fs[f]? with
          | some fl => if P.cellsOf fl.type = 0 then none else bK (decide (j < blk.es.length)) (K (.val (.ptr b v j (off + fl.offset)) [])) none
          | none => none
        | _ => none
      | _ => match aFieldAddr P bs s (.ptr b v j off) f with
        | some v => K (.val v [])
        | none => none
    | none => none
  | x => match aFieldAddr P bs s x f with
    | some v => K (.val v [])
    | none => none

def setAllK (bs : List (Nat × Blk)) (sz : Nat) : List (Nat × AV) → List AV → (List AV → Option R) → Option R
  | [], es, K => K es
  | (i, x) :: r, es, K => pureAK bs x fun y => if i < es.length ∧ y.cells.length = sz ∧ y.cells.all AV.okC = true then setAllK bs sz r (es.set i y) K else none

theorem setAllK_ok {bs : List (Nat × Blk)} {sz : Nat} : ∀ {ps : List (Nat × AV)} {es : List AV} {K : List AV → Option R} {r : R}, setAllK bs sz ps es K = some r → ∃ l, setAll bs sz es ps = some l ∧ K l = some r
  | [], es, K, r, h => ⟨_, rfl, h⟩
  | (i, x) :: ps, es, K, r, h => by
    unfold setAllK at h
    unfold setAll
    obtain ⟨y, h1, h2⟩ := pureAK_ok _ _ _ h
    simp only [h1]
    split at h2
    · rename_i hc
      rw [if_pos hc]
      exact setAllK_ok h2
    · cases h2

/-- A list of parts. -/
def buildSliceK (P : Program) (bs : List (Nat × Blk)) (d : Option Tmp) (t : TypeId) (len : Nat) (parts : List (Nat × AV)) (K : Res → Option R) : Option R :=
  match P.underlying t with
  | some (.slice e) =>
    match zeroOf P e with
    | some z =>
      if len * P.cellsOf e ≤ 1000000 ∧ P.cellsOf e ≠ 0 then
        setAllK bs (P.cellsOf e) parts (List.replicate len z) fun es => match newRow bs d (P.cellsOf e) es (freeze bs (parts.flatMap fun x => rowsA x.2)) with
        | some r => K r
        | none => none
      else none
    | none => none
  | _ => none

theorem buildSliceK_ok {P : Program} {bs : List (Nat × Blk)} {d : Option Tmp} {t : TypeId} {len : Nat} {parts : List (Nat × AV)} {K : Res → Option R} {r : R} (h : buildSliceK P bs d t len parts K = some r) : ∃ v, aBuildSlice P bs d t len parts = some v ∧ K v = some r := by
  unfold buildSliceK at h
  unfold aBuildSlice
  split at h
  · rename_i e he
    simp only [he]
    split at h
    · rename_i z hz
      simp only [hz]
      split at h
      · rename_i hc
        rw [if_pos hc]
        obtain ⟨es, h1, h2⟩ := setAllK_ok h
        simp only [h1]
        split at h2
        · rename_i q hq
          exact ⟨_, hq, h2⟩
        · cases h2
      · cases h
    · cases h
  · cases h

/-- No nil. -/
def nilChkK (bs : List (Nat × Blk)) (x : AV) (K : Res → Option R) : Option R :=
  match x with
  | .ptr b v i off => match ldBlk bs b v with
    | some blk => match blk.k with
      | .row => bK (decide (i < blk.es.length)) (K (.val (.ptr b v i off) [])) none
      | .box => if i = 0 then K (.val (.ptr b v i off) []) else none
      | .dead => none
    | none => none
  | .eptr e off => K (.val (.eptr e off) [])
  | .fn f fs cs => K (.val (.fn f fs cs) [])
  | _ => none

/-- Noughts. -/
def clearK (P : Program) (bs : List (Nat × Blk)) (t : TypeId) (x : AV) (K : Res → Option R) : Option R :=
  match P.underlying t with
  | some (.slice e) =>
    match x with
    | .slc _ [] => K (.val (.tup []) [])
    | .sref b v off len =>
      match ldBlk bs b v with
      | some blk =>
        match zeroOf P e with
        | some z =>
          if P.cellsOf e ≠ 0 ∧ blk.k = .row ∧ blk.fz = false ∧ blk.sz = P.cellsOf e then
            bK (decide (off + len ≤ blk.es.length)) (K (.val (.tup []) [(b, { blk with es := blk.es.take off ++ (List.replicate len z ++ blk.es.drop (off + len)) })])) none
          else none
        | none => none
      | none => none
    | _ => none
  | _ => none

/-- Copied. -/
def copyK (P : Program) (bs : List (Nat × Blk)) (dT : TypeId) (s x : AV) (K : Res → Option R) : Option R :=
  match P.underlying dT with
  | some (.slice e) =>
    match x with
    | .str _ => none
    | x => elemsK bs x fun xs => match s with
      | .sref b v off len =>
        match ldBlk bs b v with
        | some blk =>
          if P.cellsOf e ≠ 0 ∧ blk.k = .row ∧ blk.fz = false ∧ blk.sz = P.cellsOf e then
            bK (decide (off + len ≤ blk.es.length) && xs.all (fun y => decide (y.cells.length = P.cellsOf e)))
              (K (.val (.int .i64 ((min xs.length len : Nat) : Int)) [(b, { blk with es := blk.es.take off ++ (xs.take (min xs.length len) ++ blk.es.drop (off + min xs.length len)) })])) none
          else none
        | none => none
      | _ => none
  | _ => none

/-- One operation. -/
def opK (P : Program) (cfg : Cfg) (callF : CallF) (callK : CallK R) (f : FuncId) (st : St) (o : Oper) (K : Res → Option R) : Option R :=
  match o.op with
  | .pick c a b => match st.ev c with
    | .bool t => bK t (K (.val (st.ev a) [])) (K (.val (st.ev b) []))
    | _ => none
  | .load t a => loadK P st.bs t (st.ev a) K
  | .store t a x => storeK P st.bs t (st.ev a) (st.ev x) K
  | .binOp op t x y _ => if eqFree P t x y (st.ev x) (st.ev y) = true then binK P op t (st.ev x) (st.ev y) K else (match aNil P op t y (st.ev x) with | some v => K (.val v []) | none => none)
  | .convert src dst x => convK P st.bs o.dst src dst (st.ev x) K
  | .makeSlice t l c => mkSliceK P st.bs o.dst t (st.ev l) (st.ev c) K
  | .buildSlice t len ps => buildSliceK P st.bs o.dst t len (ps.toList.map fun x => (x.1, st.ev x.2)) K
  | .slice t x lo hi mx => sliceK P st.bs t (st.ev x) (lo.map st.ev) (hi.map st.ev) (mx.map st.ev) K
  | .fieldAddr t x n => fieldAddrK P st.bs t (st.ev x) n K
  | .indexAddr t x i => idxAddrK P st.bs t (st.ev x) (st.ev i) K
  | .index t x i => idxK P t (st.ev x) (st.ev i) K
  | .call { callee := .value q, args, .. } => match st.ev q with
    | .fn g first captured => callValK cfg callK st.bs o.dst g (first ++ args.toList.map st.ev ++ captured) K
    | _ => none
  | .call { callee := .builtin .len, args, argTypes } => match argTypes.toList, args.toList with
    | t :: _, x :: _ => lenK P st.bs t (st.ev x) K
    | _, _ => none
  | .call { callee := .builtin .append, args, argTypes } => match argTypes.toList, args.toList with
    | [sT, xT], [s, x] => appendK P (cfg.inp f) st.bs o.dst sT xT (st.ev s) (st.ev x) K
    | _, _ => none
  | .call { callee := .builtin .clear, args, argTypes } => match argTypes.toList, args.toList with
    | t :: _, x :: _ => clearK P st.bs t (st.ev x) K
    | _, _ => none
  | .call { callee := .builtin .copy, args, argTypes } => match argTypes.toList, args.toList with
    | [dT, _], [s, x] => copyK P st.bs dT (st.ev s) (st.ev x) K
    | _, _ => none
  | .nilCheck x => nilChkK st.bs (st.ev x) K
  | _ => match aOp P cfg callF st o with
    | some r => K r
    | none => none


theorem mt_inv {x : Option AV} {K : Res → Option R} {r : R} (h : (match x with | some v => K (.val v []) | none => none) = some r) : ∃ v, x = some v ∧ K (.val v []) = some r := by
  cases x with
  | none => cases h
  | some v => exact ⟨v, rfl, h⟩
theorem mr_inv {x : Option Res} {K : Res → Option R} {r : R} (h : (match x with | some v => K v | none => none) = some r) : ∃ v, x = some v ∧ K v = some r := by
  cases x with
  | none => cases h
  | some v => exact ⟨v, rfl, h⟩

variable {P : Program} {bs : List (Nat × Blk)} {K : Res → Option R} {r : R}

theorem loadK_ok {t : TypeId} {p : AV} (h : loadK P bs t p K = some r) : ∃ v, aLoad P bs t p = some v ∧ K (.val v []) = some r := by
  unfold loadK at h
  split at h
  · rename_i b v i off
    split at h
    · rename_i x hx
      split at h
      · rename_i agg fs hagg hfs
        split at h
        · rename_i hc
          obtain ⟨h1, h2, h3⟩ := hc
          have h4 : agg = true ∨ fs.length = 1 := by simpa using h3
          split at h
          · rename_i hk
            obtain ⟨d, hd, hK⟩ := oK_inv h
            refine ⟨_, ?_, hK⟩
            unfold ldRow at hd
            split at hd
            · rename_i e he
              simp only [aLoad, cellsAt, hx, hk, he]
              exact ldCells_part hagg h1 h2 h4 hd
            · cases hd
          · split at h
            · exact mt_inv h
            · cases h
          · cases h
        · exact mt_inv h
      · exact mt_inv h
    · cases h
  · exact mt_inv h

theorem storeK_ok {t : TypeId} {p x : AV} (h : storeK P bs t p x K = some r) : ∃ ds, aStore P bs t p x = some ds ∧ K (.val .skp ds) = some r := by
  unfold storeK at h
  split at h
  · rename_i b v i off
    split at h
    · rename_i blk hb
      split at h
      · rename_i hk
        split at h
        · rename_i hc
          split at h
          · cases h
          · rename_i hfz
            split at h
            · rename_i xs hxs
              split at h
              · cases h
              · rename_i hrow
                obtain ⟨es, hes, hK⟩ := oK_inv h
                unfold stRow at hes
                split at hes
                · rename_i e he
                  split at hes
                  · rename_i cs hcs
                    cases hes
                    refine ⟨_, ?_, hK⟩
                    simp only [aStore, hc, hb, hk, he, hxs, hcs]
                    simp at hfz hrow
                    simp [hfz, hrow, hc.2.2]
                  · cases hes
                · cases hes
            · cases h
        · cases h
      · split at h
        · rename_i ds hds
          exact ⟨ds, hds, h⟩
        · cases h
    · cases h
  · cases h

theorem binK_ok {op : BinOp} {t : TypeId} {x y : AV} (h : binK P op t x y K = some r) : ∃ v, aBin P op t x y = some v ∧ K (.val v []) = some r := by
  unfold binK at h
  split at h
  · split at h
    · obtain ⟨h1, h2⟩ := bK_inv1 h
      exact ⟨_, by simp only [aBin, if_pos (of_decide_eq_true h1)], h2⟩
    · exact mt_inv h
  · split at h
    · split at h
      · rename_i hk
        obtain ⟨h1, h2⟩ := bK_inv0 h
        exact ⟨_, by simp only [aBin, if_pos hk, aInts, if_neg (of_decide_eq_false h1)], h2⟩
      · cases h
    · split at h
      · rename_i hk
        obtain ⟨h1, h2⟩ := bK_inv0 h
        exact ⟨_, by simp only [aBin, if_pos hk, aInts, if_neg (of_decide_eq_false h1)], h2⟩
      · cases h
    · obtain ⟨h1, h2⟩ := bK_inv0 h
      exact ⟨_, by simp only [aBin, if_neg (of_decide_eq_false h1)], h2⟩
    · obtain ⟨h1, h2⟩ := bK_inv0 h
      exact ⟨_, by simp only [aBin, if_neg (of_decide_eq_false h1)], h2⟩
    · exact mt_inv h
  · exact mt_inv h

theorem elemsK_ok {x : AV} {K : List AV → Option R} (h : elemsK bs x K = some r) : ∃ es, elemsOf bs x = some es ∧ K es = some r := by
  unfold elemsK at h
  split at h
  · split at h
    · rename_i y hy
      split at h
      · rename_i hk
        obtain ⟨h1, h2⟩ := bK_inv1 h
        refine ⟨_, ?_, h2⟩
        simp only [elemsOf, rowAt, hy]
        rw [if_pos ⟨hk, of_decide_eq_true h1⟩]
      · cases h
    · cases h
  · split at h
    · rename_i es hes
      exact ⟨es, hes, h⟩
    · cases h

theorem convK_ok {d : Option Tmp} {src dst : TypeId} {x : AV} (h : convK P bs d src dst x K = some r) : ∃ v, aConv P bs d src dst x = some v ∧ K v = some r := by
  unfold convK at h
  split at h
  · split at h
    · rename_i e he
      split at h
      · rename_i hu
        split at h
        · rename_i hs
          obtain ⟨h1, h2⟩ := bK_inv1 h
          obtain ⟨v, h3, h4⟩ := mr_inv h2
          exact ⟨v, by simp only [aConv, he, hu, hs, of_decide_eq_true h1, and_self, if_true]; exact h3, h4⟩
        · cases h
      · cases h
    · exact mr_inv h
  · exact mr_inv h
  · rename_i hn1 hn2
    split at h
    · rename_i e he
      split at h
      · rename_i hd
        split at h
        · rename_i hu
          obtain ⟨es, hel, h⟩ := elemsK_ok h
          obtain ⟨l, hl, hK⟩ := oK_inv h
          refine ⟨_, ?_, hK⟩
          · unfold aConv
            split
            · exact absurd rfl (hn2 _ _)
            · exact absurd rfl (hn1 _)
            · simp only [he, hd, hu, hel, hl]
        · cases h
      · exact mr_inv h
    · cases h

theorem boundK_ok {d : Nat} {o : Option AV} {K : Nat → Option R} (h : boundK d o K = some r) : ∃ n, boundOf d o = some n ∧ K n = some r := by
  unfold boundK at h
  split at h
  · exact ⟨_, rfl, h⟩
  · obtain ⟨h1, h2⟩ := bK_inv1 h
    exact ⟨_, by simp only [boundOf, if_pos (of_decide_eq_true h1)], h2⟩
  · cases h

theorem sliceK_ok {t : TypeId} {x : AV} {lo hi mx : Option AV} (h : sliceK P bs t x lo hi mx K = some r) : ∃ v, aSlice P bs t x lo hi mx = some v ∧ K (.val v []) = some r := by
  unfold sliceK at h
  split at h
  · obtain ⟨l, hl, h⟩ := boundK_ok h
    split at h
    · split at h
      · rename_i e ht
        split at h
        · rename_i hz
          obtain ⟨ha, h⟩ := bK_inv1 h
          obtain ⟨hh, hhi, h⟩ := boundK_ok h
          obtain ⟨mm, hmm, h⟩ := boundK_ok h
          obtain ⟨h1, h2⟩ := bK_inv1 h
          have h1 := of_decide_eq_true h1
          refine ⟨_, ?_, h2⟩
          simp only [aSlice, hl, ht]
          rw [if_pos ⟨ha, hz.1⟩]
          simp only [hhi, hmm]
          rw [if_pos ⟨h1.1, h1.2.1, h1.2.2, hz.2⟩]
        · cases h
      · cases h
    · split at h
      · rename_i e ht
        split at h
        · rename_i y hy
          split at h
          · rename_i hc
            obtain ⟨hh, hhi, h⟩ := boundK_ok h
            obtain ⟨mm, hmm, h⟩ := boundK_ok h
            obtain ⟨h1, h2⟩ := bK_inv1 h
            have h1 := of_decide_eq_true h1
            rcases bK_inv h2 with ⟨h3, h4⟩ | ⟨h3, h4⟩
            · refine ⟨_, ?_, h4⟩
              simp only [aSlice, hl, ht, hy]
              rw [if_pos ⟨hc.1, hc.2.1, hc.2.2.1⟩]
              simp only [hhi, hmm]
              rw [if_pos ⟨h1.1, h1.2.1, h1.2.2, hc.2.2.2⟩, if_pos (of_decide_eq_true h3)]
            · refine ⟨_, ?_, h4⟩
              simp only [aSlice, hl, ht, hy]
              rw [if_pos ⟨hc.1, hc.2.1, hc.2.2.1⟩]
              simp only [hhi, hmm]
              rw [if_pos ⟨h1.1, h1.2.1, h1.2.2, hc.2.2.2⟩, if_neg (of_decide_eq_false h3)]
          · cases h
        · cases h
      · cases h
    · cases h
  · obtain ⟨l, hl, h⟩ := boundK_ok h
    split at h
    · split at h
      · rename_i ht
        obtain ⟨hh, hhi, h⟩ := boundK_ok h
        obtain ⟨h1, h2⟩ := bK_inv1 h
        have h1 := of_decide_eq_true h1
        exact ⟨_, by simp only [aSlice, hl, ht, hhi, Option.isNone_none, h1, and_self, if_true], h2⟩
      · cases h
    · split at h
      · rename_i e ht
        split at h
        · rename_i hz
          obtain ⟨ha, h⟩ := bK_inv1 h
          obtain ⟨hh, hhi, h⟩ := boundK_ok h
          obtain ⟨h1, h2⟩ := bK_inv1 h
          have h1 := of_decide_eq_true h1
          refine ⟨_, ?_, h2⟩
          simp only [aSlice, hl, ht]
          rw [if_pos ⟨ha, hz⟩]
          simp only [hhi]
          rw [if_pos h1]
        · cases h
      · cases h
    · split at h
      · rename_i e ht
        split at h
        · rename_i y hy
          split at h
          · rename_i hc
            obtain ⟨hh, hhi, h⟩ := boundK_ok h
            obtain ⟨h1, h2⟩ := bK_inv1 h
            have h1 := of_decide_eq_true h1
            rcases bK_inv h2 with ⟨h3, h4⟩ | ⟨h3, h4⟩
            · refine ⟨_, ?_, h4⟩
              simp only [aSlice, hl, ht, hy]
              rw [if_pos hc]
              simp only [hhi]
              rw [if_pos h1, if_pos (of_decide_eq_true h3)]
            · refine ⟨_, ?_, h4⟩
              simp only [aSlice, hl, ht, hy]
              rw [if_pos hc]
              simp only [hhi]
              rw [if_pos h1, if_neg (of_decide_eq_false h3)]
          · cases h
        · cases h
      · cases h
    · cases h

theorem splitK_ok {n : Int} {K : Nat → Option R} : ∀ {len i : Nat}, splitK n len i K = some r → ∃ k : Nat, n = (k : Int) ∧ i ≤ k ∧ k < i + len ∧ K k = some r
  | 0, _, h => by cases h
  | len + 1, i, h => by
    unfold splitK at h
    rcases bK_inv h with ⟨h1, h2⟩ | ⟨h1, h2⟩
    · exact ⟨i, of_decide_eq_true h1, Nat.le_refl _, by omega, h2⟩
    · obtain ⟨k, a, b, c, d⟩ := splitK_ok h2
      exact ⟨k, a, by omega, by omega, d⟩

theorem idxAddrK_ok {t : TypeId} {x i : AV} (h : idxAddrK P bs t x i K = some r) : ∃ v, aIndexAddr P bs t x i = some v ∧ K (.val v []) = some r := by
  unfold idxAddrK at h
  split at h
  · rename_i e ht
    split at h
    · split at h
      · rename_i agg fs _ _
        split at h
        · rename_i hc
          obtain ⟨d, hd, hK⟩ := oK_inv h
          obtain ⟨h1, h2, h3⟩ := elemAt_ok hd
          refine ⟨_, ?_, hK⟩
          simp only [aIndexAddr, ht, h1, if_true, h2]
          rw [if_pos ⟨h3.trans hc.1, hc.2⟩]
        · cases h
      · exact mt_inv h
    · split at h
      · rename_i y hy
        split at h
        · rename_i hc
          obtain ⟨h1, h2⟩ := bK_inv1 h
          refine ⟨_, ?_, h2⟩
          simp only [aIndexAddr, ht]
          rw [if_pos (of_decide_eq_true h1)]
          simp only [hy]
          rw [if_pos hc]
        · cases h
      · cases h
    · cases h
  · rename_i len e ht
    split at h
    · split at h
      · rename_i hz
        split at h
        · split at h
          · rename_i y hy
            obtain ⟨k, rfl, _, h1, hK⟩ := splitK_ok h
            refine ⟨_, ?_, hK⟩
            simp only [aIndexAddr, ht]
            rw [if_pos ⟨by omega, by omega, hz⟩]
            simp [hy]
          · cases h
        · obtain ⟨k, rfl, _, h1, hK⟩ := splitK_ok h
          refine ⟨_, ?_, hK⟩
          simp only [aIndexAddr, ht]
          rw [if_pos ⟨by omega, by omega, hz⟩]
          simp
        · cases h
      · cases h
    · cases h
  · cases h

theorem fieldAddrK_ok {s : TypeId} {x : AV} {f : Nat} (h : fieldAddrK P bs s x f K = some r) : ∃ v, aFieldAddr P bs s x f = some v ∧ K (.val v []) = some r := by
  unfold fieldAddrK at h
  split at h
  · split at h
    · rename_i blk hb
      split at h
      · rename_i hk
        split at h
        · rename_i fs hfs
          split at h
          · rename_i fl hfl
            split at h
            · cases h
            · rename_i hz
              obtain ⟨h1, h2⟩ := bK_inv1 h
              refine ⟨_, ?_, h2⟩
              have hlt := of_decide_eq_true h1
              simp only [aFieldAddr, hfs, hfl]
              rw [if_neg hz]
              simp only [cellsAt, hb, hk, List.getElem?_eq_getElem hlt]
          · cases h
        · cases h
      · exact mt_inv h
    · cases h
  · exact mt_inv h

theorem idxK_ok {t : TypeId} {x i : AV} (h : idxK P t x i K = some r) : ∃ v, aIndex P t x i = some v ∧ K (.val v []) = some r := by
  unfold idxK at h
  split at h
  · split at h
    · rename_i len e ht
      split at h
      · obtain ⟨k, rfl, _, h1, h⟩ := splitK_ok h
        obtain ⟨v, hv, hK⟩ := mt_inv h
        refine ⟨v, ?_, hK⟩
        simp only [aIndex, ht]
        rw [if_pos (by omega), if_pos (by omega)]
        simpa using hv
      · cases h
    · rename_i ht
      split at h
      · obtain ⟨h1, h⟩ := bK_inv1 h
        obtain ⟨b, hb, hK⟩ := oK_inv h
        refine ⟨_, ?_, hK⟩
        simp only [aIndex, ht]
        rw [if_pos (of_decide_eq_true h1)]
        simp only [hb]
      · cases h
    · cases h
  · cases h

theorem lenK_ok {t : TypeId} {x : AV} (h : lenK P bs t x K = some r) : ∃ v, aLen P bs t x = some v ∧ K (.val v []) = some r := by
  unfold lenK at h
  split at h
  · split at h
    · rename_i e ht
      split at h
      · rename_i y hy
        split at h
        · rename_i hk
          obtain ⟨h1, h2⟩ := bK_inv1 h
          refine ⟨_, ?_, h2⟩
          simp only [aLen, ht, rowAt, hy]
          rw [if_pos ⟨hk, of_decide_eq_true h1⟩]
        · cases h
      · cases h
    · cases h
  · exact mt_inv h


theorem appGoK_ok {ip : Bool} {d : Option Tmp} {sT xT e : TypeId} {s x : AV} (hsT : P.underlying sT = some (.slice e)) (xs : List AV) (hxs : appended P bs xT x = some xs) (h : appGoK P ip bs d e s K xs = some r) : ∃ v, aAppend P bs d sT xT s x = some v ∧ K v = some r := by
  unfold appGoK at h
  split at h
  · rename_i hc
    obtain ⟨hall, h⟩ := bK_inv1 h
    unfold aAppend
    simp only [hsT, hxs]
    rw [if_pos ⟨hall, hc⟩]
    split at h
    · rename_i h
      rcases bK_inv h with ⟨h1, h⟩ | ⟨h1, h⟩
      · simp only [h1, if_true]
        exact ⟨_, rfl, h⟩
      · obtain ⟨h2, h⟩ := bK_inv1 h
        simp only [Bool.and_eq_true] at h2
        obtain ⟨v, h3, h4⟩ := mr_inv h
        refine ⟨v, ?_, h4⟩
        simp only [h1, Bool.false_eq_true, if_false]
        rw [if_pos ⟨h2.1.1, h2.1.2, h2.2⟩]
        exact h3
    · rename_i b v off len _
      split at h
      · rename_i blk hb
        split at h
        · rename_i hk
          obtain ⟨h1, h⟩ := bK_inv1 h
          have h1 := of_decide_eq_true h1
          simp only [hb]
          rw [if_pos ⟨hk.1, h1, hk.2⟩]
          rcases bK_inv h with ⟨h2, h⟩ | ⟨h2, h⟩
          · simp only [h2, if_true]
            exact ⟨_, rfl, h⟩
          · simp only [h2, Bool.false_eq_true, if_false]
            split at h
            · cases h
            · rename_i hfz
              rw [if_neg hfz]
              rcases bK_inv h with ⟨h3, h⟩ | ⟨h3, h⟩
              · simp only [Bool.and_eq_true, decide_eq_true_eq] at h3
                obtain ⟨⟨h4, h5⟩, h6⟩ := h3
                have h7 : ¬ off + len + xs.length ≤ blk.es.length := by
                  have : xs.length ≠ 0 := by
                    intro h0
                    rw [List.eq_nil_of_length_eq_zero h0] at h2
                    cases h2
                  omega
                rw [if_neg h7, if_pos ⟨h4, h6⟩]
                cases hd : keyOf d with
                | none => rw [hd] at h; cases h
                | some k => rw [hd] at h; exact ⟨_, rfl, h⟩
              · split at h
                · obtain ⟨h8, h⟩ := bK_inv1 h
                  rw [if_pos (of_decide_eq_true h8)]
                  exact ⟨_, rfl, h⟩
                · cases h
        · cases h
      · cases h
    · cases h
  · cases h

theorem appendK_ok {ip : Bool} {d : Option Tmp} {sT xT : TypeId} {s x : AV} (h : appendK P ip bs d sT xT s x K = some r) : ∃ v, aAppend P bs d sT xT s x = some v ∧ K v = some r := by
  unfold appendK at h
  split at h
  · rename_i e hsT
    split at h
    · rename_i hxT
      split at h
      · exact appGoK_ok hsT _ (by simp only [appended, hxT]) h
      · cases h
    · rename_i e' hxT
      split at h
      · cases h
      · rename_i hns
        obtain ⟨es, hes, h⟩ := elemsK_ok h
        refine appGoK_ok hsT es ?_ h
        unfold appended
        rw [hxT]
        simp only
        exact hes
    · cases h
  · cases h

theorem mkSliceK_ok {d : Option Tmp} {t : TypeId} {l c : AV} (h : mkSliceK P bs d t l c K = some r) : ∃ v, aMakeSlice P bs d t l c = some v ∧ K v = some r := by
  unfold mkSliceK at h
  split at h
  · rename_i e ht
    split at h
    · split at h
      · rename_i z hz
        split at h
        · rename_i hc
          obtain ⟨h1, h2⟩ := bK_inv1 h
          obtain ⟨v, h3, h4⟩ := mr_inv h2
          simp only [Bool.and_eq_true, decide_eq_true_eq] at h1
          refine ⟨v, ?_, h4⟩
          simp only [aMakeSlice, ht, hz]
          rw [if_pos ⟨h1.1.1, h1.1.2.1, h1.1.2.2, h1.2, hc⟩]
          exact h3
        · cases h
      · cases h
    · cases h
  · cases h

theorem nilChkK_ok {x : AV} (h : nilChkK bs x K = some r) : ∃ v, (match x with
    | .ptr b v i off => match cellsAt bs (.ptr b v i off) with
      | some _ => pv (some (.ptr b v i off))
      | none => none
    | .eptr e off => pv (some (.eptr e off))
    | .fn f fs cs => pv (some (.fn f fs cs))
    | _ => none) = some v ∧ K v = some r := by
  unfold nilChkK at h
  split at h
  · split at h
    · rename_i blk hb
      split at h
      · rename_i hk
        obtain ⟨h1, h2⟩ := bK_inv1 h
        refine ⟨_, ?_, h2⟩
        have hlt := of_decide_eq_true h1
        simp only [cellsAt, hb, hk, List.getElem?_eq_getElem hlt]
        rfl
      · rename_i hk
        split at h
        · rename_i hi
          refine ⟨_, ?_, h⟩
          simp only [cellsAt, hb, hk]
          rw [if_pos hi]
          rfl
        · cases h
      · cases h
    · cases h
  · exact ⟨_, rfl, h⟩
  · exact ⟨_, rfl, h⟩
  · cases h

theorem clearK_ok {t : TypeId} {x : AV} (h : clearK P bs t x K = some r) : ∃ v, aClear P bs t x = some v ∧ K v = some r := by
  unfold clearK at h
  unfold aClear
  split at h
  · rename_i e he
    simp only [he]
    split at h
    · exact ⟨_, rfl, h⟩
    · split at h
      · rename_i blk hb
        simp only [hb]
        split at h
        · rename_i z hz
          simp only [hz]
          split at h
          · rename_i hc
            obtain ⟨h1, h2⟩ := bK_inv1 h
            refine ⟨_, ?_, h2⟩
            rw [if_pos ⟨hc.1, hc.2.1, of_decide_eq_true h1, hc.2.2.1, hc.2.2.2⟩]
          · cases h
        · cases h
      · cases h
    · cases h
  · cases h

theorem copyK_ok {dT : TypeId} {s x : AV} (h : copyK P bs dT s x K = some r) : ∃ v, aCopy P bs dT s x = some v ∧ K v = some r := by
  unfold copyK at h
  unfold aCopy
  split at h
  · rename_i e he
    simp only [he]
    split at h
    · cases h
    · rename_i hns
      obtain ⟨xs, hxs, h⟩ := elemsK_ok h
      have hm : (match x with | .str _ => none | x => elemsOf bs x) = some xs := by
        cases x <;> first | exact hxs | exact absurd rfl (hns _)
      simp only [hxs]
      split at h
      · split at h
        · rename_i blk hb
          simp only [hb]
          split at h
          · rename_i hc
            obtain ⟨h1, h2⟩ := bK_inv1 h
            simp only [Bool.and_eq_true, decide_eq_true_eq] at h1
            refine ⟨_, ?_, h2⟩
            rw [if_pos ⟨hc.1, hc.2.1, h1.1, hc.2.2.1, hc.2.2.2, h1.2⟩]
          · cases h
        · cases h
      · cases h
  · cases h
end
end Go.Ab
