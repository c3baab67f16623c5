/- copy, clear, make, a slice written out, bytes of a text. -/
import Derived.Test.YtacpbgkljdgmlaaAbApp
set_option linter.unusedVariables false
set_option linter.unusedSimpArgs false
namespace Go.Ab
open Go

section
variable {P : Program} {w0 : World} {G X Lo : Nat → Prop} {c : Cx}

theorem zero_get {z : AV} {n k : Nat} (hk : k < n * z.cells.length) : ((List.replicate n z).flatMap AV.cells)[k]? = z.cells[k % z.cells.length]? := by
  have hpos : 0 < z.cells.length := by
    rcases Nat.eq_zero_or_pos z.cells.length with h | h
    · rw [h] at hk; omega
    · exact h
  have hdiv : k / z.cells.length < n := by rw [Nat.div_lt_iff_lt_mul hpos]; exact hk
  have := flat_get (es := List.replicate n z) (sz := z.cells.length) (fun e he => by rw [(List.mem_replicate.1 he).2]) (i := k / z.cells.length) (e := z) (by simp [List.getElem?_replicate, hdiv]) (j := k % z.cells.length) (Nat.mod_lt _ hpos)
  rw [Nat.mul_comm, Nat.div_add_mod] at this
  exact this

/-- So many zeros. -/
theorem zero_PL {z : AV} {zv : Value} (h : PV c.w c.F z zv) (hok : z.cells.all AV.okC = true) (n : Nat) :
    PL c ((List.replicate n z).flatMap AV.cells) (Builtin.zeroCells zv.cells n).toList ∧ zv.cells.size = z.cells.length := by
  have hcells : ∃ vs : List Value, zv.cells = vs.toArray ∧ z.cells.length = vs.length ∧ ∀ (i : Nat) b u, z.cells[i]? = some b → vs[i]? = some u → PV c.w c.F b u := by
    by_cases hagg : ∃ cs, z = .agg cs
    · obtain ⟨cs, rfl⟩ := hagg
      cases h with
      | agg _ vs hl hc hp => exact ⟨vs, rfl, hl, hp⟩
    · have hcs : z.cells = [z] := by cases z <;> first | rfl | exact absurd ⟨_, rfl⟩ hagg
      rw [hcs] at hok ⊢
      have h1 := (V.pure h).oneCell (by simpa using hok)
      refine ⟨[zv], cells_one h1, rfl, fun i b u h2 h3 => ?_⟩
      cases i with
      | zero => simp at h2 h3; subst h2; subst h3; exact h
      | succ i => simp at h2
  obtain ⟨vs, e1, e2, e3⟩ := hcells
  have hsz : zv.cells.size = z.cells.length := by rw [e1, e2]; rfl
  have hl : ((List.replicate n z).flatMap AV.cells).length = n * z.cells.length := by
    rw [flat_len (sz := z.cells.length) (fun e he => by rw [(List.mem_replicate.1 he).2]), List.length_replicate]
  refine ⟨⟨?_, fun i a v h1 h2 => ?_⟩, hsz⟩
  · have e : (Builtin.zeroCells zv.cells n).toList.length = (Builtin.zeroCells zv.cells n).size := Array.length_toList
    rw [hl, e, zeroCells_size, hsz]
  · have hi : i < n * z.cells.length := by rw [← hl]; exact (List.getElem?_eq_some_iff.1 h1).1
    rw [zero_get hi] at h1
    have hpos : 0 < z.cells.length := by
      rcases Nat.eq_zero_or_pos z.cells.length with h | h
      · rw [h] at hi; omega
      · exact h
    have hm : i % z.cells.length < vs.length := by rw [← e2]; exact Nat.mod_lt _ hpos
    refine e3 _ a v h1 ?_
    rw [Array.getElem?_toList] at h2
    simp only [Builtin.zeroCells, hsz, Array.getElem?_map, Array.getElem?_range, hi, if_true, Option.map_some] at h2
    rw [← h2, List.getElem?_eq_getElem hm, e1]
    congr 1
    simp [hm]

theorem make_ok (h : WR w0 G X Lo c) {d : Option Tmp} {t : TypeId} {l m : AV} {lv mv : Value} (hl : V c l lv) (hm : V c m mv) {v : AV} {ds : List (Nat × Blk)}
    (hr : aMakeSlice P c.S d t l m = some (.val v ds)) : MOk P w0 G X Lo c (Instr.makeSlice t lv mv) v ds := by
  unfold aMakeSlice at hr
  split at hr
  · rename_i e hu
    split at hr
    · rename_i k n
      split at hr
      · rename_i k' n'
        split at hr
        · rename_i z hz
          split at hr
          · rename_i hc
            obtain ⟨hnm, h0, h1, hfit, hne⟩ := hc
            subst hnm
            rw [hl.int_inv, hm.int_inv]
            obtain ⟨zv, g1, g2, g3, g4⟩ := zeroOf_ok (c := c) c.w hz
            obtain ⟨ti, hti⟩ := info_of_cells hne
            have hcs : P.cellsOf e = ti.size := by simp [Program.cellsOf, hti]
            have hbo : P.bytesOf e = ti.bytes := by simp [Program.bytesOf, hti]
            simp only [bytesFit, decide_eq_true_eq, hbo] at hfit
            obtain ⟨p1, p2⟩ := zero_PL (c := c) g2 g3 n.toNat
            rw [← freeze_nil c.S] at hr
            have hsize : (Builtin.zeroCells zv.cells n.toNat).size = n.toNat * P.cellsOf e := by rw [zeroCells_size, p2, g4]
            obtain ⟨c1, k1, k2, k3, k4, k5⟩ := row_push (frz_nil h) c.w rfl rfl rfl hr (Builtin.zeroCells zv.cells n.toNat) e 0 0 (.inl rfl)
              (fun y hy => by rw [(List.mem_replicate.1 hy).2]; exact ⟨g4, fun a ha => List.all_eq_true.1 g3 a ha⟩)
              (by
                have := p1.content #[]
                simpa using this)
              n.toNat (by simp) (by rw [hsize]; exact Nat.le_refl _)
            have hw : IntKind.i64.wrap n = n := by
              unfold IntKind.wrap
              simp [IntKind.bits, IntKind.signed]
              omega
            have hbig : ¬ ((ti.bytes : Int) * n > 2 ^ 48) := by
              have : (ti.bytes : Int) * n = ((ti.bytes * n.toNat : Nat) : Int) := by rw [Int.natCast_mul, Int.toNat_of_nonneg h0]
              rw [this]
              have := hfit.1
              rw [Nat.mul_comm] at this
              omega
            refine ⟨.slice (some ⟨c.w.heap.size, 0, none⟩) n.toNat n.toNat, c1, ?_, k2, k3, k4, by simpa using k5⟩
            rw [k1]
            have hz2 : zv.cells.size = ti.size := by rw [p2, g4, hcs]
            have hneg : ¬ n < 0 := by omega
            have hbig' : ¬ (281474976710656 < (ti.bytes : Int) * n) := by simpa using hbig
            by_cases h00 : n.toNat = 0
            · have hn0 : n = 0 := by omega
              subst hn0
              have hz : Builtin.zeroCells zv.cells 0 = #[] := by simp [Builtin.zeroCells]
              simp [Instr.makeSlice, run_underlying hu, asInt, asIntOf, typeInfo, hti, sizeOf, hw, Go.newRow, hz]
              have : Array.map (fun _ => (default : Value)) (Array.range 0) = #[] := by apply Array.ext' ; simp [Array.range]
              rw [this]
            · have hts : ti.size ≠ 0 := by rw [← hcs]; exact hne
              have hrow : (Array.range (n.toNat * ti.size)).map (fun x => zv.cells[x % zv.cells.size]!) = Builtin.zeroCells zv.cells n.toNat := by
                unfold Builtin.zeroCells; rw [hz2]
              simp [Instr.makeSlice, run_underlying hu, asInt, asIntOf, typeInfo, hti, sizeOf, hw, Go.newRow, hneg, hbig', g1, hrow]
              intro h9
              rcases Nat.mul_eq_zero.1 h9 with h9 | h9
              · exact absurd h9 h00
              · exact absurd h9 hts
          · cases hr
        · cases hr
      · cases hr
    · cases hr
  · cases hr


theorem PL.take {as : List AV} {us : List Value} (h : PL c as us) (n : Nat) : PL c (as.take n) (us.take n) := by
  refine ⟨by simp [h.1], fun i a v h1 h2 => ?_⟩
  rw [List.getElem?_take] at h1 h2
  split at h1
  · rename_i hi; rw [if_pos hi] at h2; exact h.2 i a v h1 h2
  · cases h1

theorem run_first {w : World} {val : Value} {ad : Option Addr} {n cap sz m : Nat} {vs : List Value} (hval : val = .slice ad n cap) (hl : vs.length = n * sz) (hm : m ≤ n)
    (hget : n ≠ 0 → ∃ b o, ad = some ⟨b, o, none⟩ ∧ ∀ (j : Nat) v, vs[j]? = some v → w.cell? ((⟨b, o, none⟩ : Addr).add j) = some v) :
    (Builtin.firstCells sz m val).run P w = .ok (vs.take (m * sz)).toArray w := by
  subst hval
  by_cases hn : n = 0
  · subst hn
    have : m = 0 := by omega
    subst this
    cases ad <;> simp [Builtin.firstCells, loadCells, loadCellsFrom]
  · obtain ⟨b, o, rfl, hg⟩ := hget hn
    have hmn : m * sz ≤ n * sz := Nat.mul_le_mul_right _ hm
    refine run_firstCells_some w sz m ⟨b, o, none⟩ n cap _ (by rw [List.length_take]; omega) (fun j v hj => ?_)
    rw [List.getElem?_take] at hj
    split at hj
    · exact hg j v hj
    · cases hj

theorem copy_ok (h : WR w0 G X Lo c) {dT xT ty : TypeId} {s x : AV} {sv xv : Value} (hs : V c s sv) (hx : V c x xv) {v : AV} {ds : List (Nat × Blk)}
    (hr : aCopy P c.S dT s x = some (.val v ds)) : MOk P w0 G X Lo c (Builtin.copy_ #[dT, xT] ty #[sv, xv]) v ds := by
  unfold aCopy at hr
  split at hr
  · rename_i e hu
    split at hr
    · rename_i xs hxs
      split at hr
      · rename_i b v0 off len
        split at hr
        · rename_i blk hb
          split at hr
          · rename_i hk
            cases hr
            obtain ⟨hne, hkr, hle, hfz, hbs, hall⟩ := hk
            have hsz := all_sz hall
            rw [← hbs] at hsz
            obtain ⟨ti, hti⟩ := info_of_cells hne
            have hcs : P.cellsOf e = ti.size := by simp [Program.cellsOf, hti]
            obtain ⟨h1, h2, h3⟩ := ldBlk_some hb
            obtain ⟨x', hx1, hx2, hx3⟩ := hs.sref_inv
            have : blk = x' := Option.some.inj (h1.symm.trans hx1)
            subst this
            obtain ⟨cap, cells0, tt, fr0, rfl, e2, e3, e4, e5⟩ := hx3 h2.symm hkr
            have hns : ∀ s, x ≠ .str s := by rintro s rfl; cases hxs
            have hxs' : elemsOf c.S x = some xs := by cases x <;> first | exact hxs | cases hxs
            obtain ⟨ad, cap', vs, rfl, q1, q2, q3, q4⟩ := elems_read h hx hns hxs' hsz
            have hel := row_elems h h1 hkr
            have hue : ∀ e ∈ blk.es, e.cells.length = blk.sz := fun e he => (hel e he).1
            have hfl := flat_len hue
            have hmn : min xs.length len ≤ xs.length := Nat.min_le_left _ _
            have hfirst := run_first (P := P) (w := c.w) (cap := cap') (ad := ad) (m := min xs.length len) rfl q1 hmn (fun hn => q4 (by rintro rfl; simp at hn))
            have hp := q2.take (min xs.length len * blk.sz)
            have hone := hp.one (fun a ha => by
              obtain ⟨y, hy, hy2⟩ := List.mem_flatMap.1 (List.mem_of_mem_take ha)
              exact q3 y hy a hy2)
            have hpl : ((xs.flatMap AV.cells).take (min xs.length len * blk.sz)).length = min xs.length len * blk.sz := by
              rw [List.length_take, flat_len hsz]
              have := Nat.mul_le_mul_right blk.sz hmn
              omega
            have hm1 : off * blk.sz + min xs.length len * blk.sz ≤ blk.es.length * blk.sz := by
              rw [← Nat.add_mul]; exact Nat.mul_le_mul_right _ (by omega)
            obtain ⟨c1, g1, g2, g3, g4⟩ := row_write (P := P) h h1 hkr hfz hp hone (o := off * blk.sz) (es' := blk.es.take off ++ (xs.take (min xs.length len) ++ blk.es.drop (off + min xs.length len)))
              (by rw [hfl, hpl]; exact hm1) (by simp only [List.length_append, List.length_take, List.length_drop]; omega)
              (by rw [List.flatMap_append, List.flatMap_append, flat_take hue, flat_take hsz, flat_drop hue, hpl, ← Nat.add_mul])
              (fun y hy => by
                rcases List.mem_append.1 hy with hy | hy
                · exact hel y (List.mem_of_mem_take hy)
                · rcases List.mem_append.1 hy with hy | hy
                  · have := List.mem_of_mem_take hy; exact ⟨hsz y this, q3 y this⟩
                  · exact hel y (List.mem_of_mem_drop hy))
            refine ⟨.int .i64 (min xs.length len : Nat), c1, ?_, g2, g3, g4, .pure (.int _ _)⟩
            rw [hbs, hcs] at hfirst g1
            rw [hbs, hcs]
            have hmin : Nat.min xs.length len = min xs.length len := rfl
            simp [Builtin.copy_, run_underlying hu, sizeOf, typeInfo, hti, Builtin.lenOf, hfirst, g1, goInt, hmin]
          · cases hr
        · cases hr
      · cases hr
    · cases hr
  · cases hr

theorem clear_ok (h : WR w0 G X Lo c) {t ty : TypeId} {ts : List TypeId} {x : AV} {xv : Value} {xs : List Value} (hx : V c x xv) {v : AV} {ds : List (Nat × Blk)}
    (hr : aClear P c.S t x = some (.val v ds)) : MOk P w0 G X Lo c (Builtin.clear_ (t :: ts).toArray ty (xv :: xs).toArray) v ds := by
  unfold aClear at hr
  split at hr
  · rename_i e hu
    split at hr
    · cases hr
      obtain ⟨a, n, cap, rfl, hn⟩ : ∃ a n cap, xv = .slice a n cap ∧ n = 0 := by
        have := hx.slc_inv; cases this; exact ⟨_, _, _, rfl, rfl⟩
      subst hn
      refine ⟨.tuple #[], c, ?_, rfl, h, Le.refl _, .pure (.tup [] [] rfl (fun _ _ _ h => by simp at h))⟩
      cases a <;> simp [Builtin.clear_, run_underlying hu]
    · rename_i b v0 off len
      split at hr
      · rename_i blk hb
        split at hr
        · rename_i z hz
          split at hr
          · rename_i hk
            cases hr
            obtain ⟨hne, hkr, hle, hfz, hbs⟩ := hk
            obtain ⟨ti, hti⟩ := info_of_cells hne
            obtain ⟨zv, g1, g2, g3, g4⟩ := zeroOf_ok (c := c) c.w hz
            obtain ⟨h1, h2, h3⟩ := ldBlk_some hb
            obtain ⟨x', hx1, hx2, hx3⟩ := hx.sref_inv
            have : blk = x' := Option.some.inj (h1.symm.trans hx1)
            subst this
            obtain ⟨cap, cells0, tt, fr0, rfl, e2, e3, e4, e5⟩ := hx3 h2.symm hkr
            have hel := row_elems h h1 hkr
            have hue : ∀ e ∈ blk.es, e.cells.length = blk.sz := fun e he => (hel e he).1
            have hfl := flat_len hue
            obtain ⟨p1, p2⟩ := zero_PL (c := c) g2 g3 len
            have hzl : ((List.replicate len z).flatMap AV.cells).length = len * blk.sz := by
              rw [flat_len (sz := z.cells.length) (fun e he => by rw [(List.mem_replicate.1 he).2]), List.length_replicate, g4, hbs]
            have hone := p1.one (fun a ha => by
              obtain ⟨y, hy, hy2⟩ := List.mem_flatMap.1 ha
              rw [(List.mem_replicate.1 hy).2] at hy2
              exact List.all_eq_true.1 g3 a hy2)
            have hzs : ∀ y ∈ List.replicate len z, y.cells.length = blk.sz := fun y hy => by rw [(List.mem_replicate.1 hy).2, g4, hbs]
            have hm1 : off * blk.sz + len * blk.sz ≤ blk.es.length * blk.sz := by
              rw [← Nat.add_mul]; exact Nat.mul_le_mul_right _ hle
            obtain ⟨c1, k1, k2, k3, k4⟩ := row_write (P := P) h h1 hkr hfz p1 hone (o := off * blk.sz) (es' := blk.es.take off ++ (List.replicate len z ++ blk.es.drop (off + len)))
              (by rw [hfl, hzl]; exact hm1) (by simp only [List.length_append, List.length_take, List.length_drop, List.length_replicate]; omega)
              (by rw [List.flatMap_append, List.flatMap_append, flat_take hue, flat_drop hue, hzl, ← Nat.add_mul])
              (fun y hy => by
                rcases List.mem_append.1 hy with hy | hy
                · exact hel y (List.mem_of_mem_take hy)
                · rcases List.mem_append.1 hy with hy | hy
                  · exact ⟨hzs y hy, by rw [(List.mem_replicate.1 hy).2]; exact fun a ha => List.all_eq_true.1 g3 a ha⟩
                  · exact hel y (List.mem_of_mem_drop hy))
            refine ⟨.tuple #[], c1, ?_, k2, k3, k4, .pure (.tup [] [] rfl (fun _ _ _ h => by simp at h))⟩
            by_cases hl0 : len = 0
            · subst hl0
              have hz0 : Builtin.zeroCells zv.cells 0 = #[] := by simp [Builtin.zeroCells]
              rw [hz0] at k1
              simp [storeCells] at k1
              simp [Builtin.clear_, run_underlying hu, k1]
            · simp [Builtin.clear_, run_underlying hu, g1, k1, hl0]
          · cases hr
        · cases hr
      · cases hr
    · cases hr
  · cases hr


theorem setAll_ok (h : WR w0 G X Lo c) {l : List Nat} {cF : Cx} (f : FrzTo w0 G X Lo c cF l) {sz : Nat} : ∀ {parts : List (Nat × AV)} {vparts : List (Nat × Value)} {es r : List AV} {cells : List Value},
    setAll c.S sz es parts = some r → (∀ x ∈ parts, ∀ b ∈ rowsA x.2, b ∈ l) → parts.map (·.1) = vparts.map (·.1) → VL c (parts.map (·.2)) (vparts.map (·.2)) →
    (∀ e ∈ es, e.cells.length = sz ∧ ∀ a ∈ e.cells, a.okC = true) → PL cF (es.flatMap AV.cells) cells →
    r.length = es.length ∧ (∀ e ∈ r, e.cells.length = sz ∧ ∀ a ∈ e.cells, a.okC = true) ∧ ∃ us : List Value, Instr.fill (fun i => some (i * sz, sz)) cells.toArray vparts = some us.toArray ∧ PL cF (r.flatMap AV.cells) us
  | [], [], es, r, cells, hr, _, _, _, he, hp => by simp [setAll] at hr; subst hr; exact ⟨rfl, he, cells, by simp [Instr.fill], hp⟩
  | (i, x) :: parts, (j, v) :: vparts, es, r, cells, hr, hl, hi, hv, he, hp => by
    simp at hi
    obtain ⟨rfl, hi⟩ := hi
    obtain ⟨v', r', e1, hxv, hv'⟩ := VL.of_cons hv
    simp at e1
    obtain ⟨rfl, rfl⟩ := e1
    simp only [setAll] at hr
    split at hr
    · rename_i y hy
      split at hr
      · rename_i hc
        obtain ⟨hi1, hysz, hyok⟩ := hc
        obtain ⟨py, pok⟩ := pureA_ok h f (hl (i, x) (by simp)) hxv hy
        have hcells : ∃ cs : List Value, v.cells = cs.toArray ∧ PL cF y.cells cs := by
          by_cases hagg : ∃ as, y = .agg as
          · obtain ⟨as, rfl⟩ := hagg
            cases py with
            | agg _ vs hl hc hp => exact ⟨vs, rfl, hl, hp⟩
          · have hcs : y.cells = [y] := by cases y <;> first | rfl | exact absurd ⟨_, rfl⟩ hagg
            rw [hcs] at hyok ⊢
            have h1 := (V.pure py).oneCell (by simpa using hyok)
            refine ⟨[v], cells_one h1, rfl, fun k b u h2 h3 => ?_⟩
            cases k with
            | zero => simp at h2 h3; subst h2; subst h3; exact py
            | succ k => simp at h2
        obtain ⟨cs, e2, hcs⟩ := hcells
        have hcl : cs.length = sz := by rw [← hcs.1]; exact hysz
        have hu : ∀ e ∈ es, e.cells.length = sz := fun e h => (he e h).1
        obtain ⟨e0, he0⟩ : ∃ e0, es[i]? = some e0 := ⟨_, List.getElem?_eq_getElem hi1⟩
        have hflat := flat_set (xs := y.cells) (off := 0) (e' := y) hu he0 (by rw [hysz, hu e0 (List.mem_of_getElem? he0)]; omega) (by
          rw [List.take_zero, List.nil_append, List.drop_eq_nil_of_le (by rw [hysz, hu e0 (List.mem_of_getElem? he0)]; omega), List.append_nil])
        rw [Nat.add_zero] at hflat
        have hmul : i * sz + sz ≤ es.length * sz := by
          have := Nat.mul_le_mul_right sz (show i + 1 ≤ es.length by omega)
          rw [Nat.succ_mul] at this; exact this
        have hcl2 : cells.length = es.length * sz := by rw [← hp.1, flat_len hu]
        have hnew : PL cF ((es.set i y).flatMap AV.cells) (cells.take (i * sz) ++ (cs ++ cells.drop (i * sz + cs.length))) := by
          rw [hflat, hcs.1]
          refine (hp.take _).append (hcs.append ?_)
          refine ⟨by simp [hp.1], fun k a u h1 h2 => ?_⟩
          rw [List.getElem?_drop] at h1 h2
          exact hp.2 _ a u h1 h2
        obtain ⟨g1, g2, us, g3, g4⟩ := setAll_ok h f hr (fun x hx => hl x (by simp [hx])) hi hv' (fun e hm => by
          rcases List.mem_or_eq_of_mem_set hm with hm | rfl
          · exact he e hm
          · exact ⟨hysz, fun a ha => List.all_eq_true.1 hyok a ha⟩) hnew
        refine ⟨by rw [g1]; simp, g2, us, ?_, g4⟩
        have hset := set_run (i * sz) cs cells 0 (by omega)
        simp only [Nat.add_zero] at hset
        have hb : ¬ (v.cells.size ≠ sz ∨ i * sz + v.cells.size > cells.toArray.size) := by
          rw [e2]
          simp only [List.size_toArray, hcl, ne_eq, not_true, false_or]
          omega
        simp only [Instr.fill]
        rw [if_neg (by simpa using hb)]
        have hz : (v.cells.zipIdx.foldl (fun (cs : Array Value) (x : Value × Nat) => cs.setIfInBounds (i * sz + x.2) x.1) cells.toArray) = (cells.take (i * sz) ++ (cs ++ cells.drop (i * sz + cs.length))).toArray := by
          rw [e2, ← Array.foldl_toList, Array.toList_zipIdx]
          rw [hset, List.append_assoc]
        rw [← g3]
        congr 1
      · cases hr
    · cases hr
  | [], _ :: _, _, _, _, _, _, hi, _, _, _ => by simp at hi
  | _ :: _, [], _, _, _, _, _, hi, _, _, _ => by simp at hi

theorem buildSlice_ok (h : WR w0 G X Lo c) {d : Option Tmp} {t : TypeId} {len : Nat} {ps : Array (Nat × Operand)} {ev : Operand → AV} {rv : Operand → Value} (hrel : ∀ x, V c (ev x) (rv x)) {v : AV} {ds : List (Nat × Blk)}
    (hr : aBuildSlice P c.S d t len (ps.toList.map fun x => (x.1, ev x.2)) = some (.val v ds)) : MOk P w0 G X Lo c (Instr.buildSlice t len (ps.map fun (i, x) => (i, rv x))) v ds := by
  obtain ⟨hp1, hp2⟩ := parts_rel (c := c) (ps := ps) hrel
  unfold aBuildSlice at hr
  split at hr
  · rename_i e hu
    split at hr
    · rename_i z hz
      split at hr
      · rename_i hc
        split at hr
        · rename_i es hes
          obtain ⟨ti, hti⟩ := info_of_cells hc.2
          have hcs : P.cellsOf e = ti.size := by simp [Program.cellsOf, hti]
          obtain ⟨zv, g1, g2, g3, g4⟩ := zeroOf_ok (c := c) c.w hz
          obtain ⟨cF, f⟩ := freezeTo h ((ps.toList.map fun x => (x.1, ev x.2)).flatMap fun x => rowsA x.2)
          have g2F : PV cF.w cF.F z zv := g2.mono f.le.size f.le.hF f.le.hw
          obtain ⟨p1, p2⟩ := zero_PL (c := cF) g2F g3 len
          obtain ⟨k1, k2, us, k3, k4⟩ := setAll_ok h f hes (fun x hx b hb => List.mem_flatMap.2 ⟨x, hx, hb⟩) hp1 hp2
            (fun y hy => by rw [(List.mem_replicate.1 hy).2]; exact ⟨g4, fun a ha => List.all_eq_true.1 g3 a ha⟩) p1
          have hul : us.length = len * P.cellsOf e := by
            rw [← k4.1, flat_len (fun e he => (k2 e he).1), k1, List.length_replicate]
          have hlen : es.length = len := by rw [k1, List.length_replicate]
          obtain ⟨c1, m1, m2, m3, m4, m5⟩ := row_push f c.w rfl rfl rfl hr us.toArray e 0 0 (.inl rfl) k2
            (by have := k4.content #[]; simpa using this) len (by omega) (by simp [hul])
          refine ⟨.slice (some ⟨c.w.heap.size, 0, none⟩) len len, c1, ?_, m2, m3, m4, by rw [hlen] at m5; exact m5⟩
          rw [m1]
          have hz2 : zv.cells.size = ti.size := by rw [p2, g4, hcs]
          have hts : ti.size ≠ 0 := by rw [← hcs]; exact hc.2
          have hbig : ¬ (16777216 < len * ti.size) := by rw [← hcs]; omega
          have hz : (Builtin.zeroCells zv.cells len).toList.toArray = Builtin.zeroCells zv.cells len := by simp
          rw [hz, hcs, Array.toList_map] at k3
          by_cases h00 : len = 0
          · subst h00
            have hz0 : Builtin.zeroCells zv.cells 0 = #[] := by simp [Builtin.zeroCells]
            have h9 : Array.map (fun _ => (default : Value)) (Array.range 0) = #[] := by apply Array.ext' ; simp [Array.range]
            rw [hz0] at k3
            simp [Instr.buildSlice, run_underlying hu, sizeOf, typeInfo, hti, Go.newRow, h9, k3]
          · have hrow : (Array.range (len * ti.size)).map (fun x => zv.cells[x % zv.cells.size]!) = Builtin.zeroCells zv.cells len := by
              unfold Builtin.zeroCells; rw [hz2]
            have h0 : ¬ (len * ti.size = 0) := Nat.mul_ne_zero h00 hts
            simp only [Instr.buildSlice, Sem.run_bind, run_underlying hu, Result.andThen_ok, run_sizeOf hti, hcs]
            simp [hbig, h0, g1, hrow, k3, Go.newRow]
        · cases hr
      · cases hr
    · cases hr
  · cases hr

end
end Go.Ab
