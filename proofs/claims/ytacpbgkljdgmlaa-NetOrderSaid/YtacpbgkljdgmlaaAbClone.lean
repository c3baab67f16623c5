/- slices.Clone of what is empty: it is nil or not, and so is what comes back. -/
import Derived.Test.YtacpbgkljdgmlaaAbRowK
set_option linter.unusedVariables false
set_option linter.unusedSimpArgs false
namespace Go.Ab
open Go

def ge (d : Option Tmp) (op : Op) (x : TypeId × String × Array Edge) : Oper := { dst := d, op := op, type := x.1, pos := x.2.1, after := x.2.2, guard := none }

def cloneCode (t t4 : TypeId) (i0 i1 i2 i3 : Nat) (a b c d e f g h : TypeId × String × Array Edge) : Code :=
  .seq (.region i0 #[ge (some 2) (.assign (.const (.slice none 0 0))) a] false)
    (.seq (.seq (.region i1 #[ge (some 3) (.move (.tmp 0)) b, ge (some 4) (.binOp .eql t (.tmp 3) (.const (.slice none 0 0)) t4) c] false)
        (.cond (.tmp 4) (.seq (.region i2 #[ge (some 2) (.assign (.const (.slice none 0 0))) d] false) .ret) .skip))
      (.seq (.region i3 #[ge (some 5) (.buildSlice t 0 #[]) e, ge (some 6) (.move (.tmp 0)) f, ge (some 7) (.call { callee := .builtin .append, args := #[.tmp 5, .tmp 6], argTypes := #[t, t] }) g, ge (some 2) (.assign (.tmp 7)) h] false) .ret))

section
variable {P : Program} {w0 : World} {G X Lo : Nat → Prop} {c : Cx}

/-- A block that nobody knows. -/
theorem WR.pushU (h : WR w0 G X Lo c) (o : Obj) : WR w0 G X Lo { c with w := { c.w with heap := c.w.heap.push o } } ∧ Le c { c with w := { c.w with heap := c.w.heap.push o } } := by
  have hold : ∀ i, i < c.w.heap.size → (c.w.heap.push o)[i]? = c.w.heap[i]? := fun i hi => by rw [Array.getElem?_push_lt hi, Array.getElem?_eq_getElem hi]
  have L : Le c { c with w := { c.w with heap := c.w.heap.push o } } := by
    refine ⟨by show _ ≤ (c.w.heap.push o).size; rw [Array.size_push]; omega, fun _ _ hf => hf, fun i hi _ => hold i hi, fun b x hx => ⟨x, hx, Nat.le_refl _, fun _ hd => ⟨rfl, rfl, rfl, fun _ => rfl, id, fun cells t fr hc => ⟨cells, t, fr, ?_, rfl⟩⟩⟩⟩
    show (c.w.heap.push o)[c.R b]? = _
    rw [hold _ (Array.getElem?_eq_some_iff.1 hc).1]; exact hc
  refine ⟨⟨Nat.le_trans h.size L.size, fun i hi hg => ?_, h.os, h.out, h.xs, h.own, h.low, h.inj, fun b x hx hd => ?_, h.hF⟩, L⟩
  · show (c.w.heap.push o)[i]? = _
    rw [hold i (Nat.lt_of_lt_of_le hi h.size)]; exact h.kept i hi hg
  · obtain ⟨cells, t, lo, hi, g1, g2, g3, g4⟩ := (h.blk b x hx hd).here
    refine ⟨cells, t, lo, hi, ?_, g2, fun k => (g3 k).mono L, fun k => ⟨(g4 k).1, (g4 k).2.mono L⟩⟩
    show (c.w.heap.push o)[c.R b]? = _
    rw [hold _ (Array.getElem?_eq_some_iff.1 g1).1]; exact g1

def primEmpty (args : List AV) (out : List Blk) : Option Ret :=
  match args with
  | [.slc _ []] => if (out.all fun x => decide (x.v = 0)) = true then some { pan := false, res := .slc true [], out := out, new := [] } else none
  | _ => none

theorem empty_V {x : Bool} {v : Value} (h : V c (.slc x []) v) : ∃ a cap, v = .slice a 0 cap := by
  have := h.slc_inv
  cases this
  exact ⟨_, _, rfl⟩

theorem V_empty (a : Option Addr) : V c (.slc true []) (.slice a 0 0) :=
  .pure (.slc true [] a 0 0 [] (fun _ => rfl) (Nat.le_refl _) (fun e he => by simp at he) (fun h => absurd rfl h) rfl (fun k c v h => by simp at h))

theorem run_equalIn_slc (w : World) (d : Nat) {t e : TypeId} {a : Option Addr} {n cap : Nat} (hu : P.underlying t = some (.slice e)) :
    (Op.equalIn (d + 1) t (.slice a n cap) (.slice none 0 0)).run P w = .ok a.isNone w := by
  cases a <;> simp [Op.equalIn, run_underlying hu]

theorem put_size (A : Act) (d : Option Tmp) (v : Value) : (A.put d v).tmps.size = A.tmps.size := by
  cases d <;> simp [Act.put]

theorem put_same (A : Act) {d : Nat} (v : Value) (h : d < A.tmps.size) : (A.put (some d) v).eval (.tmp d) = v := by
  simp [Act.put, Act.eval, Array.getD, h]

theorem put_ne (A : Act) {d k : Nat} (v : Value) (h : d ≠ k) : (A.put (some d) v).eval (.tmp k) = A.eval (.tmp k) := by
  simp only [Act.put, Act.eval, Array.getD_eq_getD_getElem?, Array.getElem?_setIfInBounds]
  rw [if_neg h]

theorem wp_step {ops : Array Oper} {Q : Exit → Act → World → Prop} {i : Nat} {rest : List Nat} {A : Act} {w w' : World} {o : Oper} {u : Value} {d : Nat} (h1 : ops[i]? = some o) (h2 : o.guard = none) (hd : o.dst = some d) (hs : d < A.tmps.size)
    (h3 : (execOp A.eval o).run P w = .ok (.value u) w') (h4 : ∀ A' : Act, A'.tmps.size = A.tmps.size ∧ A'.defers = A.defers → A'.eval (.tmp d) = u → (∀ k, d ≠ k → A'.eval (.tmp k) = A.eval (.tmp k)) → wpOps P ops Q rest A' w') : wpOps P ops Q (i :: rest) A w := by
  simp only [wpOps, h1, Region.wanted, h2, if_true]
  left
  unfold Oper.wp
  rw [h3, Oper.upon_value, hd]
  exact h4 _ ⟨put_size A _ u, rfl⟩ (put_same A u hs) (fun k hk => put_ne A u hk)

theorem run_cmp (W : World) {t t4 e : TypeId} {a : Option Addr} {cap : Nat} {xc : TypeId × String × Array Edge} (ht : P.underlying t = some (.slice e)) (A : Act) (hA : A.eval (.tmp 3) = .slice a 0 cap) :
    (execOp A.eval (ge (some 4) (.binOp .eql t (.tmp 3) (.const (.slice none 0 0)) t4) xc)).run P W = .ok (.value (.bool a.isNone)) W := by
  have he : (Op.equal t (.slice a 0 cap) (.slice none 0 0)).run P W = .ok a.isNone W := run_equalIn_slc W 9999 ht
  have h1 := (run_eql_any W he (by simp)).1
  have : execOp A.eval (ge (some 4) (.binOp .eql t (.tmp 3) (.const (.slice none 0 0)) t4) xc) = (do pure (Next.value (← (do eqGuard .eql t (.tmp 3) (.const (.slice none 0 0)) (A.eval (.tmp 3)) (.slice none 0 0); binOp .eql t (A.eval (.tmp 3)) (.slice none 0 0))))) := rfl
  rw [this, hA]
  have g : (eqGuard .eql t (.tmp 3) (.const (.slice none 0 0)) (.slice a 0 cap) (.slice none 0 0)).run P W = .ok () W := by simp [eqGuard]
  rw [Sem.run_bind, Sem.run_bind, g, Result.andThen_ok, h1]
  rfl

theorem run_build0 (W : World) {t e : TypeId} {ei : TypeInfo} {xe : TypeId × String × Array Edge} (ht : P.underlying t = some (.slice e)) (he : P.info? e = some ei) (A : Act) :
    (execOp A.eval (ge (some 5) (.buildSlice t 0 #[]) xe)).run P W = .ok (.value (.slice (some ⟨W.heap.size, 0, none⟩) 0 0)) { W with heap := W.heap.push (.cells #[] e) } := by
  have h0 : (Array.map (fun _ => (default : Value)) (Array.range 0)) = #[] := by apply Array.ext <;> simp
  simp [execOp, ge, Instr.buildSlice, run_underlying ht, sizeOf, typeInfo, he, Instr.fill, Go.newRow, h0]

theorem run_app0 {t e : TypeId} {ei : TypeInfo} {xg : TypeId × String × Array Edge} (ht : P.underlying t = some (.slice e)) (he : P.info? e = some ei) (A : Act) (w : World) (g ad : Addr) (cap : Nat) (h5 : A.eval (.tmp 5) = .slice (some g) 0 0) (h6 : A.eval (.tmp 6) = .slice (some ad) 0 cap) :
    (execOp A.eval (ge (some 7) (.call { callee := .builtin .append, args := #[.tmp 5, .tmp 6], argTypes := #[t, t] }) xg)).run P w = .ok (.value (.slice (some g) 0 0)) w := by
  have k1 : ∀ w', (loadCellsFrom ad 0 0 #[]).run P w' = .ok #[] w' := fun _ => rfl
  have k2 : ∀ w' a, (storeCells a []).run P w' = .ok () w' := fun _ _ => rfl
  simp [execOp, ge, resolve, invoke, builtin, Builtin.append_, h5, h6, run_underlying ht, sizeOf, typeInfo, he, Builtin.lenOf, Builtin.firstCells, loadCells, k1, k2]

theorem clone_wp (W : World) {t t4 e : TypeId} {ei : TypeInfo} {i0 i1 i2 i3 : Nat} {xa xb xc xd xe xf xg xh : TypeId × String × Array Edge} (ht : P.underlying t = some (.slice e)) (he : P.info? e = some ei) (a : Option Addr) (cap : Nat) (A : Act) (hsz : A.tmps.size = 8) (hdf : A.defers = []) (hA : A.eval (.tmp 0) = .slice a 0 cap)
    (Q : Exit → Act → World → Prop) (h1 : ∀ A' : Act, A'.defers = [] → A'.eval (.tmp 2) = .slice none 0 0 → a = none → Q .ret A' W) (h2 : ∀ A' : Act, ∀ g o, A'.defers = [] → A'.eval (.tmp 2) = .slice (some g) 0 0 → Q .ret A' { W with heap := W.heap.push o }) :
    (cloneCode t t4 i0 i1 i2 i3 xa xb xc xd xe xf xg xh).wp P Q A W := by
  unfold cloneCode
  refine wp_seq (wp_region (wp_step (d := 2) rfl rfl rfl (by omega) (w' := W) (u := .slice none 0 0) rfl ?_))
  intro A1 ⟨s1, d1⟩ _ n1
  refine wp_seq (wp_seq (wp_region (wp_step (d := 3) rfl rfl rfl (by omega) (w' := W) (u := .slice a 0 cap) ?_ ?_)))
  · show (pure (Next.value (A1.eval (.tmp 0))) : Sem Next).run P W = _
    rw [n1 0 (by decide), hA]
    rfl
  intro A2 ⟨s2, d2⟩ v2 n2
  refine wp_step (d := 4) rfl rfl rfl (by omega) (run_cmp W ht A2 v2) ?_
  intro A3 ⟨s3, d3⟩ v3 n3
  refine wp_cond (t := a.isNone) v3 ?_
  cases a with
  | none =>
    refine wp_seq (wp_region (wp_step (d := 2) rfl rfl rfl (by omega) (w' := W) (u := .slice none 0 0) rfl ?_))
    intro A4 ⟨_, d4⟩ v4 _
    exact wp_ret (h1 A4 (by rw [d4, d3, d2, d1, hdf]) v4 rfl)
  | some ad =>
    refine wp_skip ?_
    refine wp_seq (wp_region (wp_step (d := 5) rfl rfl rfl (by omega) (run_build0 W ht he A3) ?_))
    intro A4 ⟨s4, d4⟩ v4 n4
    refine wp_step (d := 6) rfl rfl rfl (by omega) (u := .slice (some ad) 0 cap) (w' := { W with heap := W.heap.push (.cells #[] e) }) ?_ ?_
    · show (pure (Next.value (A4.eval (.tmp 0))) : Sem Next).run P _ = _
      rw [n4 0 (by decide), n3 0 (by decide), n2 0 (by decide), n1 0 (by decide), hA]
      rfl
    intro A5 ⟨s5, d5⟩ v5 n5
    refine wp_step (d := 7) rfl rfl rfl (by omega) (run_app0 ht he A5 _ ⟨W.heap.size, 0, none⟩ ad cap (by rw [n5 5 (by decide), v4]) v5) ?_
    intro A6 ⟨s6, d6⟩ v6 n6
    refine wp_step (d := 2) rfl rfl rfl (by omega) (u := .slice (some ⟨W.heap.size, 0, none⟩) 0 0) (w' := { W with heap := W.heap.push (.cells #[] e) }) ?_ ?_
    · show (pure (Next.value (A6.eval (.tmp 7))) : Sem Next).run P _ = _
      rw [v6]
      rfl
    intro A7 ⟨_, d7⟩ v7 _
    exact wp_ret (h2 A7 _ _ (by rw [d7, d6, d5, d4, d3, d2, d1, hdf]) v7)

theorem clone_calls {f : FuncId} {fn : Func} {t t4 e : TypeId} {ei : TypeInfo} {i0 i1 i2 i3 : Nat} {xa xb xc xd xe xf xg xh : TypeId × String × Array Edge} (hf : P.funcs[f]? = some fn) (hb : fn.body = some (cloneCode t t4 i0 i1 i2 i3 xa xb xc xd xe xf xg xh))
    (hn : fn.ntmps = 8) (hres : fn.results = #[.tmp 2]) (ht : P.underlying t = some (.slice e)) (he : P.info? e = some ei) (a : Option Addr) (cap : Nat) (W : World) :
    Calls P f #[.slice a 0 cap] W fun en W' => (en = .returned (.slice none 0 0) ∧ W' = W) ∨ ∃ g, en = .returned (.slice (some g) 0 0) ∧ ∃ o, W' = { W with heap := W.heap.push o } := by
  refine calls_of_wp hf hb ?_
  rw [hn]
  refine clone_wp W ht he a cap _ rfl rfl rfl _ ?_ ?_
  · intro A' hd hA _
    exact ⟨hd, _, by rw [results_tmp hres], .inl ⟨by rw [show A'.tmps.getD 2 undef = _ from hA], rfl⟩⟩
  · intro A' g o hd hA
    exact ⟨hd, _, by rw [results_tmp hres], .inr ⟨g, by rw [show A'.tmps.getD 2 undef = _ from hA], o, rfl⟩⟩

theorem primEmpty_ok {f : FuncId} {fn : Func} {t t4 e : TypeId} {ei : TypeInfo} {i0 i1 i2 i3 : Nat} {xa xb xc xd xe xf xg xh : TypeId × String × Array Edge} (hf : P.funcs[f]? = some fn) (hnm : (fn.name == "runtime.NumGoroutine") = false) (hb : fn.body = some (cloneCode t t4 i0 i1 i2 i3 xa xb xc xd xe xf xg xh))
    (hn : fn.ntmps = 8) (hres : fn.results = #[.tmp 2]) (ht : P.underlying t = some (.slice e)) (he : P.info? e = some ei) : PrimOk P f primEmpty := by
  intro args out r h
  unfold primEmpty at h
  split at h
  · split at h
    · cases h
      refine ⟨⟨fn, _, hf, hb, hnm⟩, ?_⟩
      intro c w0 G X Lo vs hS hout hW hv
      obtain ⟨v, r, rfl, h1, h2⟩ := VL.of_cons hv
      have : r = [] := List.eq_nil_of_length_eq_zero (by simpa using h2.1.symm)
      subst this
      obtain ⟨a, cap, rfl⟩ := empty_V h1
      refine (clone_calls hf hb hn hres ht he a cap c.w).mono ?_
      rintro en W' (⟨rfl, rfl⟩ | ⟨g, rfl, o, rfl⟩)
      · exact ⟨c, _, rfl, by simpa [withKeys] using hS, hW, Le.refl c, V_empty none, rfl⟩
      · obtain ⟨g1, g2⟩ := hW.pushU o
        exact ⟨_, _, rfl, by simpa [withKeys] using hS, g1, g2, V_empty (some g), rfl⟩
    · cases h
  · cases h

end
end Go.Ab
