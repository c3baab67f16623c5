/- What the model's operations do where the evaluator says what they come to: those that only read. -/
import Derived.Test.YtihgfpggdkhhaaaAbRel
import Derived.Laws.Sem
import Derived.Laws.Entries
import Derived.Laws.Cells
set_option linter.unusedVariables false
set_option linter.unusedSimpArgs false
namespace Go.Ab
open Go

section inv
variable {c : Cx} {v : Value}
theorem V.bool_inv {b : Bool} (h : V c (.bool b) v) : v = .bool b := by cases h with | pure h => cases h; rfl
theorem V.int_inv {k : IntKind} {n : Int} (h : V c (.int k n) v) : v = .int k n := by cases h with | pure h => cases h; rfl
theorem V.str_inv {s : List UInt8} (h : V c (.str s) v) : v = .string ⟨s.toArray⟩ := by cases h with | pure h => cases h; rfl
theorem V.skp_inv (h : V c .skp v) : v = Go.undef := by cases h with | pure h => cases h; rfl
theorem V.pnil_inv (h : V c .pnil v) : v = .pointer none := by cases h with | pure h => cases h; rfl
theorem V.fnil_inv (h : V c .fnil v) : v = .nilFunc := by cases h with | pure h => cases h; rfl
theorem V.inil_inv (h : V c .inil v) : v = .nilIface := by cases h with | pure h => cases h; rfl
theorem V.slc_inv {x : Bool} {es : List AV} (h : V c (.slc x es) v) : PV c.w c.F (.slc x es) v := by cases h with | pure h => exact h
theorem V.iface_inv {t : TypeId} {a : AV} (h : V c (.iface t a) v) : ∃ u, v = .iface t u ∧ a.simple = true ∧ PV c.w c.F a u := by
  cases h with | pure h => cases h with | iface _ _ u hs h => exact ⟨u, rfl, hs, h⟩
theorem V.agg_inv {cs : List AV} (h : V c (.agg cs) v) : ∃ vs : List Value, v = .agg vs.toArray ∧ cs.length = vs.length ∧ (∀ c ∈ cs, c.okC = true) ∧ ∀ (i : Nat) a u, cs[i]? = some a → vs[i]? = some u → V c a u := by
  cases h with
  | pure h => cases h with | agg _ vs hl hc h => exact ⟨vs, rfl, hl, hc, fun i a u h1 h2 => .pure (h i a u h1 h2)⟩
  | agg _ vs hl hc h => exact ⟨vs, rfl, hl, hc, h⟩
theorem V.tup_inv {cs : List AV} (h : V c (.tup cs) v) : ∃ vs : List Value, v = .tuple vs.toArray ∧ cs.length = vs.length ∧ ∀ (i : Nat) a u, cs[i]? = some a → vs[i]? = some u → V c a u := by
  cases h with
  | pure h => cases h with | tup _ vs hl h => exact ⟨vs, rfl, hl, fun i a u h1 h2 => .pure (h i a u h1 h2)⟩
  | tup _ vs hl h => exact ⟨vs, rfl, hl, h⟩
theorem V.fn_inv {f : FuncId} {fs cs : List AV} (h : V c (.fn f fs cs) v) : ∃ vfs vcs : List Value, v = .func (.func f) vfs.toArray vcs.toArray ∧ fs.length = vfs.length ∧ cs.length = vcs.length ∧
    (∀ (i : Nat) a u, fs[i]? = some a → vfs[i]? = some u → V c a u) ∧ ∀ (i : Nat) a u, cs[i]? = some a → vcs[i]? = some u → V c a u := by
  cases h with
  | pure h => cases h with | fn => exact ⟨[], [], rfl, rfl, rfl, fun _ _ _ h => by simp at h, fun _ _ _ h => by simp at h⟩
  | fn _ _ _ vfs vcs h1 h2 h3 h4 => exact ⟨vfs, vcs, rfl, h1, h2, h3, h4⟩
theorem V.sref_inv {b w off len : Nat} (h : V c (.sref b w off len) v) : ∃ x, look c.S b = some x ∧ w ≤ x.v ∧ (w = x.v → x.k = .row → ∃ cap cells t fr, v = .slice (some ⟨c.R b, off * x.sz, none⟩) len cap ∧ x.es.length ≤ off + cap ∧ len ≤ cap ∧
        c.w.heap[c.R b]? = some (.cells cells t fr) ∧ (off + cap) * x.sz ≤ cells.size) := by
  cases h with
  | pure h => cases h
  | sref _ _ _ _ _ _ x hb hv h => exact ⟨x, hb, hv, h⟩
theorem V.ptr_inv {b w i off : Nat} (h : V c (.ptr b w i off) v) : ∃ x, look c.S b = some x ∧ w ≤ x.v ∧
    (w = x.v → (x.k = .box → i = 0 → v = .pointer (some ⟨c.R b, off, none⟩)) ∧ (x.k = .row → v = .pointer (some ⟨c.R b, i * x.sz + off, none⟩))) := by
  cases h with
  | pure h => cases h
  | ptr _ _ _ _ _ _ x hb hv h => exact ⟨x, hb, hv, h⟩
theorem V.eptr_inv {e : AV} {off : Nat} (h : V c (.eptr e off) v) : ∃ b o, ∃ vals : List Value, v = .pointer (some ⟨b, o + off, none⟩) ∧ b < c.w.heap.size ∧ ¬ c.F b ∧ vals.length = e.cells.length ∧ (∀ a ∈ e.cells, a.okC = true) ∧
    (∀ (k : Nat) v, vals[k]? = some v → c.w.cell? ⟨b, o + k, none⟩ = some v) ∧ ∀ (k : Nat) a v, e.cells[k]? = some a → vals[k]? = some v → PV c.w c.F a v := by
  cases h with
  | pure h => cases h
  | eptr _ _ b o vals hb hF hl hc ha hv => exact ⟨b, o, vals, rfl, hb, hF, hl, hc, ha, hv⟩
end inv

theorem V.oneCell {c : Cx} {a : AV} {v : Value} (h : V c a v) (ha : a.okC = true) : v.oneCell' = true := by
  cases h with
  | pure h => cases h <;> first | rfl | cases ha
  | agg => cases ha
  | tup => cases ha
  | sref _ _ _ _ _ h1 => exact h1
  | ptr _ _ _ _ _ h1 => exact h1
  | eptr => rfl
  | fn => rfl

theorem cells_one {v : Value} (h : v.oneCell' = true) : v.cells = #[v] := by cases v <;> first | rfl | cases h

/-- The cells of a value. -/
theorem V.cells {c : Cx} {a : AV} {v : Value} (h : V c a v) (ha : a.cells.all AV.okC = true) : ∃ vs : List Value, v.cells = vs.toArray ∧ a.cells.length = vs.length ∧
    (∀ u ∈ vs, u.oneCell' = true) ∧ ∀ (i : Nat) b u, a.cells[i]? = some b → vs[i]? = some u → V c b u := by
  by_cases hagg : ∃ cs, a = .agg cs
  · obtain ⟨cs, rfl⟩ := hagg
    obtain ⟨vs, rfl, hl, hc, hp⟩ := h.agg_inv
    refine ⟨vs, rfl, hl, fun u hu => ?_, hp⟩
    obtain ⟨i, hi, rfl⟩ := List.getElem_of_mem hu
    have hi' : i < cs.length := by omega
    exact (hp i cs[i] vs[i] (List.getElem?_eq_getElem hi') (List.getElem?_eq_getElem hi)).oneCell (hc _ (List.getElem_mem hi'))
  · have hcs : a.cells = [a] := by cases a <;> first | rfl | exact absurd ⟨_, rfl⟩ hagg
    rw [hcs] at ha ⊢
    have ha' : a.okC = true := by simpa using ha
    have h1 := h.oneCell ha'
    refine ⟨[v], cells_one h1, rfl, fun u hu => ?_, fun i b u h2 h3 => ?_⟩
    · rw [List.mem_singleton.1 hu]; exact h1
    · cases i with
      | zero => simp at h2 h3; subst h2; subst h3; exact h
      | succ i => simp at h2

theorem flat_get {es : List AV} {sz : Nat} (h : ∀ e ∈ es, e.cells.length = sz) {i : Nat} {e : AV} (he : es[i]? = some e) {j : Nat} (hj : j < sz) :
    (es.flatMap AV.cells)[i * sz + j]? = e.cells[j]? := by
  induction es generalizing i with
  | nil => simp at he
  | cons a r ih =>
    have ha : a.cells.length = sz := h a (by simp)
    rw [List.flatMap_cons]
    cases i with
    | zero =>
      simp at he; subst he
      rw [Nat.zero_mul, Nat.zero_add, List.getElem?_append_left (by omega)]
    | succ i =>
      simp at he
      rw [List.getElem?_append_right (by rw [Nat.succ_mul]; omega), ha]
      rw [show (i + 1) * sz + j - sz = i * sz + j by rw [Nat.succ_mul]; omega]
      exact ih (fun e he => h e (by simp [he])) he

theorem flat_len {es : List AV} {sz : Nat} (h : ∀ e ∈ es, e.cells.length = sz) : (es.flatMap AV.cells).length = es.length * sz := by
  induction es with
  | nil => simp
  | cons a r ih =>
    rw [List.flatMap_cons, List.length_append, ih (fun e he => h e (by simp [he])), h a (by simp), List.length_cons, Nat.succ_mul]; omega

/-- A piece of memory that a pointer leads into: cells that can be read. -/
def Lies (c : Cx) (cs : List AV) (b o : Nat) (vals : List Value) : Prop :=
  b < c.w.heap.size ∧ vals.length = cs.length ∧ (∀ (k : Nat) v, vals[k]? = some v → c.w.cell? ⟨b, o + k, none⟩ = some v) ∧
    ∀ (k : Nat) a v, cs[k]? = some a → vals[k]? = some v → V c a v ∧ a.okC = true

theorem ldBlk_some {bs : List (Nat × Blk)} {b v : Nat} {x : Blk} (h : ldBlk bs b v = some x) : look bs b = some x ∧ x.v = v ∧ x.k ≠ .dead := by
  unfold ldBlk at h
  split at h
  · rename_i y hy
    split at h
    · rename_i hc
      cases h
      exact ⟨hy, hc.1, hc.2⟩
    · cases h
  · cases h

theorem lies_box {c : Cx} {b : Nat} {x : Blk} (h : BR c b x) (hk : x.k = .box) : ∃ vals, Lies c x.es (c.R b) 0 vals := by
  obtain ⟨cells, t, lo, hi, h1, h2, h3, _⟩ := h.here
  have h3 := h3 hk
  refine ⟨cells.toList.take x.es.length, h.lt, ?_, ?_, ?_⟩
  · rw [List.length_take]
    have : x.es.length ≤ cells.toList.length := by
      rcases Nat.lt_or_ge cells.toList.length x.es.length with hlt | hge
      · obtain ⟨_, v, hv, _⟩ := h3 cells.toList.length x.es[cells.toList.length] (List.getElem?_eq_getElem hlt)
        have := (Array.getElem?_eq_some_iff.1 hv).1
        simp at this
      · exact hge
    omega
  · intro k v hk
    rw [List.getElem?_take] at hk
    split at hk
    · rw [Array.getElem?_toList] at hk
      simp [World.cell?, h1, hk]
    · cases hk
  · intro k a v hk1 hk2
    rw [List.getElem?_take] at hk2
    split at hk2
    · rw [Array.getElem?_toList] at hk2
      obtain ⟨ho, u, hu, hV⟩ := h3 k a hk1
      rw [hk2] at hu
      cases hu
      exact ⟨hV, ho⟩
    · cases hk2

theorem lies_row {c : Cx} {b : Nat} {x : Blk} (h : BR c b x) (hk : x.k = .row) {i : Nat} {e : AV} (he : x.es[i]? = some e) : ∃ vals, Lies c e.cells (c.R b) (i * x.sz) vals := by
  obtain ⟨cells, t, lo, hi, h1, h2, _, h4⟩ := h.here
  obtain ⟨h3, h4⟩ := h4 hk
  have hsz : e.cells.length = x.sz := (h3 e (List.mem_of_getElem? he)).1
  have hcell : ∀ j a, e.cells[j]? = some a → ∃ v, cells[i * x.sz + j]? = some v ∧ PV c.w c.F a v := by
    intro j a ha
    have hj : j < x.sz := by rw [← hsz]; exact (List.getElem?_eq_some_iff.1 ha).1
    exact h4 _ a (by rw [flat_get (fun e he => (h3 e he).1) he hj]; exact ha)
  refine ⟨(cells.toList.drop (i * x.sz)).take e.cells.length, h.lt, ?_, ?_, ?_⟩
  · rw [List.length_take, List.length_drop]
    rcases Nat.eq_zero_or_pos e.cells.length with h0 | h0
    · omega
    · obtain ⟨v, hv, _⟩ := hcell (e.cells.length - 1) e.cells[e.cells.length - 1] (List.getElem?_eq_getElem (by omega))
      have := (Array.getElem?_eq_some_iff.1 hv).1
      have hs : cells.toList.length = cells.size := Array.length_toList
      omega
  · intro k v hk
    rw [List.getElem?_take] at hk
    split at hk
    · rw [List.getElem?_drop, Array.getElem?_toList] at hk
      simp [World.cell?, h1, hk]
    · cases hk
  · intro k a v hk1 hk2
    rw [List.getElem?_take] at hk2
    split at hk2
    · rw [List.getElem?_drop, Array.getElem?_toList] at hk2
      obtain ⟨u, hu, hV⟩ := hcell k a hk1
      rw [hk2] at hu
      cases hu
      exact ⟨.pure hV, (h3 e (List.mem_of_getElem? he)).2 a (List.mem_of_getElem? hk1)⟩
    · cases hk2

section
variable {P : Program} {w0 : World} {G X Lo : Nat → Prop} {c : Cx}

theorem cellsAt_lies (h : WR w0 G X Lo c) {p : AV} {val : Value} (hp : V c p val) {cs : List AV} {off : Nat} (hc : cellsAt c.S p = some (cs, off)) :
    ∃ b o vals, val = .pointer (some ⟨b, o + off, none⟩) ∧ Lies c cs b o vals := by
  cases p with
  | ptr b v i o =>
    obtain ⟨x, hx, hv, hq⟩ := hp.ptr_inv
    simp only [cellsAt] at hc
    split at hc
    · rename_i y hy
      obtain ⟨h1, h2, h3⟩ := ldBlk_some hy
      have : y = x := Option.some.inj (h1.symm.trans hx)
      subst this
      have hB := h.blk b y hx h3
      obtain ⟨q1, q2⟩ := hq h2.symm
      split at hc
      · rename_i hk
        split at hc
        · rename_i hi
          cases hc
          obtain ⟨vals, hl⟩ := lies_box hB hk
          exact ⟨_, 0, vals, by rw [q1 hk hi, Nat.zero_add], hl⟩
        · cases hc
      · rename_i hk
        split at hc
        · rename_i e he
          cases hc
          obtain ⟨vals, hl⟩ := lies_row hB hk he
          exact ⟨_, _, vals, q2 hk, hl⟩
        · cases hc
      · cases hc
    · cases hc
  | eptr e o =>
    obtain ⟨b, o', vals, rfl, h1, h2, h3, h4, h5, h6⟩ := hp.eptr_inv
    simp only [cellsAt] at hc
    cases hc
    exact ⟨b, o', vals, rfl, h1, h3, h5, fun k a v h7 h8 => ⟨.pure (h6 k a v h7 h8), h4 a (List.mem_of_getElem? h7)⟩⟩
  | _ => cases hc

theorem cellsOf_some {t : TypeId} {d : TypeDesc} (h : P.underlying t = some d) : ∃ i, P.info? t = some i ∧ P.cellsOf t = i.size := by
  cases hi : P.info? t with
  | none => simp [Program.underlying, hi] at h
  | some i => exact ⟨i, rfl, by simp [Program.cellsOf, hi]⟩

theorem run_isAgg {t : TypeId} {g : Bool} (h : isAggT P t = some g) (w : World) : (isAgg t).run P w = .ok g w := by
  unfold isAggT at h
  split at h <;> first | cases h | skip
  all_goals (rename_i hd; simp [isAgg, run_underlying hd])
  all_goals (rename_i d _ _ _; cases d <;> first | rfl | simp_all)

theorem isAggT_cells {t : TypeId} {g : Bool} (h : isAggT P t = some g) : ∃ i, P.info? t = some i ∧ P.cellsOf t = i.size := by
  unfold isAggT at h
  split at h
  · rename_i hd; exact cellsOf_some hd
  · rename_i hd; exact cellsOf_some hd
  · rename_i hd; exact cellsOf_some hd
  · cases h

theorem add_zero (a : Addr) (k : Nat) (h : a.spot = none) : a.add k = ⟨a.block, a.off + k, none⟩ := by
  unfold Addr.add
  split
  · subst_vars; cases a; simp_all
  · rfl

theorem run_loadVar (t : TypeId) {cs : List AV} {b o off : Nat} {vals : List Value} (hl : Lies c cs b o vals) {r : AV} (hr : part P t cs off = some r) :
    ∃ v, (loadVar t ⟨b, o + off, none⟩).run P c.w = .ok v c.w ∧ V c r v := by
  obtain ⟨h1, h2, h3, h4⟩ := hl
  unfold part at hr
  split at hr
  · rename_i hg
    split at hr
    · rename_i hle
      cases hr
      obtain ⟨i, hi, hsz⟩ := isAggT_cells hg
      have hc : ∀ j v, ((vals.drop off).take (P.cellsOf t))[j]? = some v → c.w.cell? ((⟨b, o + off, none⟩ : Addr).add j) = some v := by
        intro j v hj
        rw [List.getElem?_take] at hj
        split at hj
        · rw [List.getElem?_drop] at hj
          rw [add_zero _ _ rfl]
          have := h3 _ v hj
          simpa [Nat.add_assoc] using this
        · cases hj
      have hlen : ((vals.drop off).take (P.cellsOf t)).length = i.size := by
        rw [List.length_take, List.length_drop, h2, ← hsz]; omega
      have hrun := run_loadCells_list (P := P) c.w ⟨b, o + off, none⟩ _ hc
      rw [hlen] at hrun
      refine ⟨.agg ((vals.drop off).take (P.cellsOf t)).toArray, ?_, ?_⟩
      · simp [loadVar, run_isAgg hg, sizeOf, typeInfo, hi, hrun]
      · refine .agg _ _ ?_ (fun a ha => ?_) (fun k a v hk1 hk2 => ?_)
        · rw [hlen, List.length_take, List.length_drop, ← hsz]; omega
        · have := List.mem_of_mem_drop (List.mem_of_mem_take ha)
          obtain ⟨k, hk, rfl⟩ := List.getElem_of_mem this
          exact (h4 k cs[k] vals[k] (List.getElem?_eq_getElem hk) (List.getElem?_eq_getElem (by omega))).2
        · rw [List.getElem?_take] at hk1 hk2
          split at hk1
          · rename_i hlt
            rw [if_pos hlt] at hk2
            rw [List.getElem?_drop] at hk1 hk2
            exact (h4 _ a v hk1 hk2).1
          · cases hk1
    · cases hr
  · rename_i hg
    have hlt := (List.getElem?_eq_some_iff.1 hr).1
    have hv := h3 off vals[off] (List.getElem?_eq_getElem (by omega))
    refine ⟨vals[off], ?_, (h4 off r vals[off] hr (List.getElem?_eq_getElem (by omega))).1⟩
    simp [loadVar, run_isAgg hg, hv]
  · cases hr

theorem load_ok (h : WR w0 G X Lo c) {t : TypeId} {p r : AV} {val : Value} (hp : V c p val) (hr : aLoad P c.S t p = some r) :
    ∃ v, (Instr.loadAt t val).run P c.w = .ok v c.w ∧ V c r v := by
  unfold aLoad at hr
  split at hr
  · rename_i cs off hc
    obtain ⟨b, o, vals, rfl, hl⟩ := cellsAt_lies h hp hc
    obtain ⟨v, h1, h2⟩ := run_loadVar t hl hr
    exact ⟨v, by simp [Instr.loadAt, Instr.sureAddr, h1], h2⟩
  · cases hr


theorem run_sizeOf {t : TypeId} {i : TypeInfo} (h : P.info? t = some i) (w : World) : (sizeOf t).run P w = .ok (P.cellsOf t) w := by
  simp [sizeOf, typeInfo, h, Program.cellsOf]

theorem part_ok (w : World) {t : TypeId} {cs : List AV} {vs : List Value} (hl : cs.length = vs.length) (hc : ∀ a ∈ cs, a.okC = true)
    (hp : ∀ (i : Nat) a u, cs[i]? = some a → vs[i]? = some u → V c a u) {off : Nat} {r : AV} (hr : part P t cs off = some r) :
    ∃ v, (Go.part t vs.toArray off).run P w = .ok v w ∧ V c r v := by
  unfold part at hr
  split at hr
  · rename_i hg
    split at hr
    · rename_i hle
      cases hr
      obtain ⟨i, hi, hsz⟩ := isAggT_cells hg
      refine ⟨.agg ((vs.drop off).take (P.cellsOf t)).toArray, ?_, ?_⟩
      · have : vs.toArray.extract off (off + P.cellsOf t) = ((vs.drop off).take (P.cellsOf t)).toArray := by
          simp [List.extract_toArray, List.extract]
        simp [Go.part, run_isAgg hg, run_sizeOf hi, this]
      · refine .agg _ _ ?_ (fun a ha => ?_) (fun k a v hk1 hk2 => ?_)
        · rw [List.length_take, List.length_take, List.length_drop, List.length_drop, hl]
        · exact hc _ (List.mem_of_mem_drop (List.mem_of_mem_take ha))
        · rw [List.getElem?_take] at hk1 hk2
          split at hk1
          · rename_i hlt
            rw [if_pos hlt] at hk2
            rw [List.getElem?_drop] at hk1 hk2
            exact hp _ a v hk1 hk2
          · cases hk1
    · cases hr
  · rename_i hg
    have hlt := (List.getElem?_eq_some_iff.1 hr).1
    have hv : vs[off]? = some vs[off] := List.getElem?_eq_getElem (by omega)
    refine ⟨vs[off], ?_, hp off r _ hr hv⟩
    simp [Go.part, run_isAgg hg, hv]
  · cases hr

theorem field_ok (w : World) {t : TypeId} {x r : AV} {val : Value} {f : Nat} (hx : V c x val) (hr : aField P t x f = some r) :
    ∃ v, (Instr.field t val f).run P w = .ok v w ∧ V c r v := by
  unfold aField at hr
  split at hr
  · rename_i fs hu
    split at hr
    · rename_i fl hf
      split at hr
      · obtain ⟨vs, rfl, hl, hc, hp⟩ := hx.agg_inv
        obtain ⟨v, h1, h2⟩ := part_ok w hl hc hp hr
        exact ⟨v, by simp [Instr.field, run_underlying hu, hf, asAgg, h1], h2⟩
      · cases hr
    · cases hr
  · cases hr

theorem index_ok (w : World) {t : TypeId} {x i r : AV} {val iv : Value} (hx : V c x val) (hi : V c i iv) (hr : aIndex P t x i = some r) :
    ∃ v, (Instr.index t val iv).run P w = .ok v w ∧ V c r v := by
  unfold aIndex at hr
  split at hr
  · rename_i k n
    have := hi.int_inv
    subst this
    split at hr
    · rename_i h0
      split at hr
      · rename_i len e hu
        split at hr
        · split at hr
          · rename_i hn
            obtain ⟨vs, rfl, hl, hc, hp⟩ := hx.agg_inv
            obtain ⟨v, h1, h2⟩ := part_ok w hl hc hp hr
            have hsz : ∃ i, P.info? e = some i := by
              unfold part at hr
              cases hg : isAggT P e with
              | none => simp [hg] at hr
              | some g => obtain ⟨i, hi, _⟩ := isAggT_cells hg; exact ⟨i, hi⟩
            obtain ⟨ti, hti⟩ := hsz
            exact ⟨v, by simp [Instr.index, asIntOf, run_underlying hu, h0, hn, run_sizeOf hti, h1], h2⟩
          · cases hr
        · cases hr
      · rename_i hu
        split at hr
        · rename_i s
          have := hx.str_inv
          subst this
          split at hr
          · rename_i b hb
            cases hr
            have hb' : (⟨s.toArray⟩ : ByteArray)[n.toNat]? = some b := by
              have hlt := (List.getElem?_eq_some_iff.1 hb).1
              have hlt' : n.toNat < (⟨s.toArray⟩ : ByteArray).size := by simpa [ByteArray.size] using hlt
              rw [getElem?_pos (⟨s.toArray⟩ : ByteArray) n.toNat hlt']
              rw [List.getElem?_eq_getElem hlt] at hb
              have : (⟨s.toArray⟩ : ByteArray)[n.toNat] = s[n.toNat] := rfl
              rw [this]; exact hb
            exact ⟨_, by simp [Instr.index, asIntOf, run_underlying hu, h0, hb'], .pure (.int _ _)⟩
          · cases hr
        · cases hr
      · cases hr
    · cases hr
  · cases hr

theorem extract_ok (w : World) {x r : AV} {vs : List AV} {val : Value} {i : Nat} (hx : V c (.tup vs) val) (hr : vs[i]? = some r) :
    ∃ v, (Instr.extract val i).run P w = .ok v w ∧ V c r v := by
  obtain ⟨us, rfl, hl, hp⟩ := hx.tup_inv
  have hlt := (List.getElem?_eq_some_iff.1 hr).1
  have hu : us[i]? = some us[i] := List.getElem?_eq_getElem (by omega)
  exact ⟨us[i], by simp [Instr.extract, hu], hp i r _ hr hu⟩

/-- An element of a slice that nobody writes. -/
theorem slc_elem {x : Bool} {es : List AV} {val : Value} (h : PV c.w c.F (.slc x es) val) {i : Nat} {e : AV} (he : es[i]? = some e) :
    ∃ b o cap, ∃ vals : List Value, val = .slice (some ⟨b, o, none⟩) es.length cap ∧ b < c.w.heap.size ∧ ¬ c.F b ∧ vals.length = e.cells.length ∧ (∀ a ∈ e.cells, a.okC = true) ∧
      (∀ (k : Nat) v, vals[k]? = some v → c.w.cell? ⟨b, o + i * e.cells.length + k, none⟩ = some v) ∧ ∀ (k : Nat) a v, e.cells[k]? = some a → vals[k]? = some v → PV c.w c.F a v := by
  cases h with
  | slc _ _ a cap sz vals hx hcap hsz ha hl hv =>
    obtain ⟨b, o, rfl, h1, h2, h3⟩ := ha (by rintro rfl; simp at he)
    have hes := hsz e (List.mem_of_getElem? he)
    have hu : ∀ e ∈ es, e.cells.length = sz := fun e he => (hsz e he).1
    have hlen := flat_len hu
    have hlt := (List.getElem?_eq_some_iff.1 he).1
    have hmul : i * sz + sz ≤ es.length * sz := by
      have := Nat.mul_le_mul_right sz (show i + 1 ≤ es.length by omega)
      rw [Nat.succ_mul] at this; exact this
    refine ⟨b, o, cap, (vals.drop (i * sz)).take sz, rfl, h1, h2, ?_, hes.2, ?_, ?_⟩
    · rw [List.length_take, List.length_drop, hl, hlen, hes.1]; omega
    · intro k v hk
      rw [List.getElem?_take] at hk
      split at hk
      · rw [List.getElem?_drop] at hk
        rw [hes.1, Nat.add_assoc]
        exact h3 _ v hk
      · cases hk
    · intro k a v hk1 hk2
      rw [List.getElem?_take] at hk2
      split at hk2
      · rename_i hk
        rw [List.getElem?_drop] at hk2
        exact hv _ a v (by rw [flat_get hu he hk]; exact hk1) hk2
      · cases hk2

theorem Lies.ptr_of {b v i o : Nat} {val : Value} (hp : V c (.ptr b v i o) val) {cs : List AV} {off : Nat} (hc : cellsAt c.S (.ptr b v i o) = some (cs, off)) :
    ∃ B O, val = .pointer (some ⟨B, O, none⟩) ∧ ∀ k, V c (.ptr b v i (o + k)) (.pointer (some ⟨B, O + k, none⟩)) := by
  obtain ⟨x, hx, hv, hq⟩ := hp.ptr_inv
  simp only [cellsAt] at hc
  split at hc
  · rename_i y hy
    obtain ⟨h1, h2, h3⟩ := ldBlk_some hy
    have : y = x := Option.some.inj (h1.symm.trans hx)
    subst this
    obtain ⟨q1, q2⟩ := hq h2.symm
    split at hc
    · rename_i hk
      split at hc
      · rename_i hi
        refine ⟨_, _, q1 hk hi, fun k => .ptr _ _ _ _ _ rfl y hx hv (fun _ => ⟨fun _ _ => by rw [], fun hk' => ?_⟩)⟩
        rw [hk] at hk'; cases hk'
      · cases hc
    · rename_i hk
      refine ⟨_, _, q2 hk, fun k => .ptr _ _ _ _ _ rfl y hx hv (fun _ => ⟨fun hk' => ?_, fun _ => by rw [Nat.add_assoc]⟩)⟩
      rw [hk] at hk'; cases hk'
    · cases hc
  · cases hc

theorem info_of_cells {t : TypeId} (h : P.cellsOf t ≠ 0) : ∃ i, P.info? t = some i := by
  cases hi : P.info? t with
  | some i => exact ⟨i, rfl⟩
  | none => simp [Program.cellsOf, hi] at h

theorem indexAddr_ok {t : TypeId} {x i r : AV} {val iv : Value} (hx : V c x val) (hi : V c i iv) (hr : aIndexAddr P c.S t x i = some r) :
    ∃ v, (Instr.indexAt t val iv).run P c.w = .ok v c.w ∧ V c r v := by
  unfold aIndexAddr at hr
  split at hr
  · rename_i e hu
    split at hr
    · rename_i xx es
      split at hr
      · rename_i k n
        have := hi.int_inv
        subst this
        split at hr
        · rename_i h0
          split at hr
          · rename_i el hel
            split at hr
            · rename_i hsz
              cases hr
              obtain ⟨b, o, cap, vals, rfl, h1, h2, h3, h4, h5, h6⟩ := slc_elem hx.slc_inv hel
              have hlt := (List.getElem?_eq_some_iff.1 hel).1
              have hin : 0 ≤ n ∧ n < (es.length : Int) := by omega
              obtain ⟨ti, hti⟩ := info_of_cells hsz.2
              refine ⟨_, by simp [Instr.indexAt, asIntOf, run_underlying hu, hin, run_sizeOf hti]; rfl, ?_⟩
              rw [add_zero _ _ rfl, ← hsz.1]
              have := V.eptr el 0 b (o + n.toNat * el.cells.length) vals h1 h2 h3 h4 h5 h6
              simpa using this
            · cases hr
          · cases hr
        · cases hr
      · cases hr
    · rename_i b v off len
      split at hr
      · rename_i k n
        have := hi.int_inv
        subst this
        split at hr
        · rename_i hn
          split at hr
          · rename_i y hy
            split at hr
            · rename_i hk
              cases hr
              obtain ⟨h1, h2, h3⟩ := ldBlk_some hy
              obtain ⟨x, hx1, hx2, hx3⟩ := hx.sref_inv
              have : y = x := Option.some.inj (h1.symm.trans hx1)
              subst this
              obtain ⟨cap, cells, tt, fr, rfl, e2, e3, e4, e5⟩ := hx3 h2.symm hk.1
              obtain ⟨ti, hti⟩ := info_of_cells hk.2.2
              refine ⟨_, by simp [Instr.indexAt, asIntOf, run_underlying hu, hn, run_sizeOf hti]; rfl, ?_⟩
              rw [add_zero _ _ rfl]
              refine .ptr _ _ _ _ _ rfl y hx1 hx2 (fun _ => ⟨fun hk' => ?_, fun _ => ?_⟩)
              · rw [hk.1] at hk'; cases hk'
              · rw [← hk.2.1, Nat.add_mul, Nat.add_zero]
            · cases hr
          · cases hr
        · cases hr
      · cases hr
    · cases hr
  · rename_i len e hu
    split at hr
    · rename_i k n
      have := hi.int_inv
      subst this
      split at hr
      · rename_i hn
        obtain ⟨ti, hti⟩ := info_of_cells hn.2.2
        have hn' : 0 ≤ n ∧ n < (len : Int) := ⟨hn.1, hn.2.1⟩
        split at hr
        · split at hr
          · rename_i b v j off y hy
            cases hr
            obtain ⟨B, O, rfl, hq⟩ := Lies.ptr_of hx (cs := y.1) (off := y.2) hy
            refine ⟨_, by simp [Instr.indexAt, asIntOf, run_underlying hu, hn', run_sizeOf hti, Instr.sureAddr]; rfl, ?_⟩
            rw [add_zero _ _ rfl]
            exact hq _
          · cases hr
        · rename_i el off
          cases hr
          obtain ⟨b, o, vals, rfl, h1, h2, h3, h4, h5, h6⟩ := hx.eptr_inv
          refine ⟨_, by simp [Instr.indexAt, asIntOf, run_underlying hu, hn', run_sizeOf hti, Instr.sureAddr]; rfl, ?_⟩
          rw [add_zero _ _ rfl]
          have := V.eptr el (off + n.toNat * P.cellsOf e) b o vals h1 h2 h3 h4 h5 h6
          simpa [Nat.add_assoc] using this
        · cases hr
      · cases hr
    · cases hr
  · cases hr

theorem fieldAddr_ok {t : TypeId} {x r : AV} {val : Value} {f : Nat} (hx : V c x val) (hr : aFieldAddr P c.S t x f = some r) :
    ∃ v, (Instr.fieldAt t val f).run P c.w = .ok v c.w ∧ V c r v := by
  unfold aFieldAddr at hr
  split at hr
  · rename_i fs hu
    split at hr
    · rename_i fl hf
      split at hr
      · cases hr
      · rename_i hne
        obtain ⟨ti, hti⟩ := info_of_cells hne
        split at hr
        · split at hr
          · rename_i b v j off y hy
            cases hr
            obtain ⟨B, O, rfl, hq⟩ := Lies.ptr_of hx (cs := y.1) (off := y.2) hy
            refine ⟨_, by simp [Instr.fieldAt, run_underlying hu, hf, Instr.sureAddr, fieldPlace, run_sizeOf hti, hne]; rfl, ?_⟩
            rw [add_zero _ _ rfl]
            exact hq _
          · cases hr
        · rename_i el off
          cases hr
          obtain ⟨b, o, vals, rfl, h1, h2, h3, h4, h5, h6⟩ := hx.eptr_inv
          refine ⟨_, by simp [Instr.fieldAt, run_underlying hu, hf, Instr.sureAddr, fieldPlace, run_sizeOf hti, hne]; rfl, ?_⟩
          rw [add_zero _ _ rfl]
          have := V.eptr el (off + fl.offset) b o vals h1 h2 h3 h4 h5 h6
          simpa [Nat.add_assoc] using this
        · cases hr
    · cases hr
  · cases hr

end
end Go.Ab
