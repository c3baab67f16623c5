/- Stores, appends, copies. -/
import Derived.Test.YtihgfpggdkhhaaaAbWr
set_option linter.unusedVariables false
set_option linter.unusedSimpArgs false
namespace Go.Ab
open Go

section
variable {P : Program} {w0 : World} {G X Lo : Nat → Prop} {c : Cx}

theorem arr_splice_get {cells : Array Value} {vs : List Value} {o : Nat} (hle : o + vs.length ≤ cells.size) (k : Nat) :
    ((cells.toList.take o ++ vs ++ cells.toList.drop (o + vs.length)).toArray)[k]? = if o ≤ k ∧ k < o + vs.length then vs[k - o]? else cells[k]? := by
  have hs : cells.toList.length = cells.size := Array.length_toList
  rw [List.getElem?_toArray, List.append_assoc]
  by_cases h1 : k < o
  · rw [List.getElem?_append_left (by rw [List.length_take]; omega), List.getElem?_take, if_pos h1, if_neg (by omega), Array.getElem?_toList]
  · rw [List.getElem?_append_right (by rw [List.length_take]; omega), List.length_take, show k - min o cells.toList.length = k - o by omega]
    by_cases h2 : k < o + vs.length
    · rw [List.getElem?_append_left (by omega), if_pos (by omega)]
    · rw [List.getElem?_append_right (by omega), if_neg (by omega), List.getElem?_drop, Array.getElem?_toList]
      congr 1; omega

theorem list_splice_get {es xs : List AV} {o : Nat} (hle : o + xs.length ≤ es.length) (k : Nat) :
    (es.take o ++ (xs ++ es.drop (o + xs.length)))[k]? = if o ≤ k ∧ k < o + xs.length then xs[k - o]? else es[k]? := by
  by_cases h1 : k < o
  · rw [List.getElem?_append_left (by rw [List.length_take]; omega), List.getElem?_take, if_pos h1, if_neg (by omega)]
  · rw [List.getElem?_append_right (by rw [List.length_take]; omega), List.length_take, show k - min o es.length = k - o by omega]
    by_cases h2 : k < o + xs.length
    · rw [List.getElem?_append_left (by omega), if_pos (by omega)]
    · rw [List.getElem?_append_right (by omega), if_neg (by omega), List.getElem?_drop]
      congr 1; omega

theorem arr_splice_size {cells : Array Value} {vs : List Value} {o : Nat} (hle : o + vs.length ≤ cells.size) : ((cells.toList.take o ++ vs ++ cells.toList.drop (o + vs.length)).toArray).size = cells.size := by
  have hs : cells.toList.length = cells.size := Array.length_toList
  simp only [List.size_toArray, List.length_append, List.length_take, List.length_drop]; omega

theorem content_le {es : List AV} {cells : Array Value} (h : ∀ (k : Nat) a, es[k]? = some a → ∃ v, cells[k]? = some v) : es.length ≤ cells.size := by
  rcases Nat.eq_zero_or_pos es.length with h0 | h0
  · omega
  · obtain ⟨v, hv⟩ := h (es.length - 1) _ (List.getElem?_eq_getElem (by omega))
    have := (Array.getElem?_eq_some_iff.1 hv).1
    omega

theorem Content.splice {es xs : List AV} {cells : Array Value} {vs : List Value} {o : Nat} (h : Content c es cells) (hx : VL c xs vs) (hok : ∀ a ∈ xs, a.okC = true) (hle : o + xs.length ≤ es.length) :
    Content c (es.take o ++ (xs ++ es.drop (o + xs.length))) (cells.toList.take o ++ vs ++ cells.toList.drop (o + vs.length)).toArray := by
  have hcs := content_le (fun k a hk => let ⟨_, v, h1, _⟩ := h k a hk; ⟨v, h1⟩)
  intro k a hk
  rw [list_splice_get hle] at hk
  rw [arr_splice_get (by rw [← hx.1]; omega), ← hx.1]
  split at hk
  · rename_i hr
    rw [if_pos hr]
    have hlt := (List.getElem?_eq_some_iff.1 hk).1
    have hlv : k - o < vs.length := by rw [← hx.1]; exact hlt
    have hv : vs[k - o]? = some vs[k - o] := List.getElem?_eq_getElem hlv
    exact ⟨hok a (List.mem_of_getElem? hk), vs[k - o], hv, hx.2 _ _ _ hk hv⟩
  · rename_i hr
    rw [if_neg hr]
    exact h k a hk

theorem PContent.splice {es xs : List AV} {cells : Array Value} {vs : List Value} {o : Nat} (h : PContent c es cells) (hx : PL c xs vs) (hle : o + xs.length ≤ es.length) :
    PContent c (es.take o ++ (xs ++ es.drop (o + xs.length))) (cells.toList.take o ++ vs ++ cells.toList.drop (o + vs.length)).toArray := by
  have hcs := content_le (fun k a hk => let ⟨v, h1, _⟩ := h k a hk; ⟨v, h1⟩)
  intro k a hk
  rw [list_splice_get hle] at hk
  rw [arr_splice_get (by rw [← hx.1]; omega), ← hx.1]
  split at hk
  · rename_i hr
    rw [if_pos hr]
    have hlt := (List.getElem?_eq_some_iff.1 hk).1
    have hlv : k - o < vs.length := by rw [← hx.1]; exact hlt
    have hv : vs[k - o]? = some vs[k - o] := List.getElem?_eq_getElem hlv
    exact ⟨vs[k - o], hv, hx.2 _ _ _ hk hv⟩
  · rename_i hr
    rw [if_neg hr]
    exact h k a hk

theorem box_write (h : WR w0 G X Lo c) {b : Nat} {x : Blk} (hx : look c.S b = some x) (hk : x.k = .box) (hz : x.fz = false) {xs : List AV} {vs : List Value} (hv : VL c xs vs) (hok : ∀ a ∈ xs, a.okC = true)
    (h1 : ∀ v ∈ vs, v.oneCell' = true) {o : Nat} (ho : o + xs.length ≤ x.es.length) :
    ∃ c1, (storeCells ⟨c.R b, o, none⟩ vs).run P c.w = .ok () c1.w ∧ c1.S = (b, { x with es := x.es.take o ++ (xs ++ x.es.drop (o + xs.length)) }) :: c.S ∧ WR w0 G X Lo c1 ∧ Le c c1 := by
  have hd : x.k ≠ .dead := by rw [hk]; decide
  obtain ⟨cells, t, lo, hi, g1, g2, g3, _⟩ := (h.blk b x hx hd).here
  have hcont := g3 hk
  have hcs := content_le (fun k a hk => let ⟨_, v, h1, _⟩ := hcont k a hk; ⟨v, h1⟩)
  have hle : o + vs.length ≤ cells.size := by rw [← hv.1]; omega
  have hrun := run_storeCells (P := P) (c.R b) o t lo hi vs 0 cells c.w g1 (fr_ok g2) (by omega) h1
  simp only [Nat.add_zero] at hrun
  have hsz := arr_splice_size hle
  obtain ⟨k1, k2⟩ := h.setW b x { x with es := x.es.take o ++ (xs ++ x.es.drop (o + xs.length)) } hx hd hz rfl rfl rfl hz (fun hr => by rw [hk] at hr; cases hr)
    cells _ t t (lo, hi) lo hi g1 hsz (by rw [hsz]; exact g2) _ (setRow_heap_eq c.w (c.R b) cells _ t (lo, hi) g1) rfl rfl
    (fun _ => hcont.splice hv hok ho) (fun hr => by rw [hk] at hr; cases hr)
  exact ⟨_, hrun, rfl, k1, k2⟩

theorem row_write (h : WR w0 G X Lo c) {b : Nat} {x : Blk} (hx : look c.S b = some x) (hk : x.k = .row) (hz : x.fz = false) {xs : List AV} {vs : List Value} (hv : PL c xs vs)
    (h1 : ∀ v ∈ vs, v.oneCell' = true) {o : Nat} (ho : o + xs.length ≤ (x.es.flatMap AV.cells).length) {es' : List AV} (hlen : es'.length = x.es.length)
    (hflat : es'.flatMap AV.cells = (x.es.flatMap AV.cells).take o ++ (xs ++ (x.es.flatMap AV.cells).drop (o + xs.length)))
    (hel : ∀ e ∈ es', e.cells.length = x.sz ∧ ∀ a ∈ e.cells, a.okC = true) :
    ∃ c1, (storeCells ⟨c.R b, o, none⟩ vs).run P c.w = .ok () c1.w ∧ c1.S = (b, { x with es := es' }) :: c.S ∧ WR w0 G X Lo c1 ∧ Le c c1 := by
  have hd : x.k ≠ .dead := by rw [hk]; decide
  obtain ⟨cells, t, lo, hi, g1, g2, _, g4⟩ := (h.blk b x hx hd).here
  obtain ⟨g5, hcont⟩ := g4 hk
  have hcs := content_le (fun k a hk => let ⟨v, h1, _⟩ := hcont k a hk; ⟨v, h1⟩)
  have hle : o + vs.length ≤ cells.size := by rw [← hv.1]; omega
  have hrun := run_storeCells (P := P) (c.R b) o t lo hi vs 0 cells c.w g1 (fr_ok g2) (by omega) h1
  simp only [Nat.add_zero] at hrun
  have hsz := arr_splice_size hle
  obtain ⟨k1, k2⟩ := h.setW b x { x with es := es' } hx hd hz rfl rfl rfl hz (fun _ => hlen)
    cells _ t t (lo, hi) lo hi g1 hsz (by rw [hsz]; exact g2) _ (setRow_heap_eq c.w (c.R b) cells _ t (lo, hi) g1) rfl rfl
    (fun hr => by rw [hk] at hr; cases hr) (fun _ => ⟨hel, by show PContent c (es'.flatMap AV.cells) _; rw [hflat]; exact hcont.splice hv ho⟩)
  exact ⟨_, hrun, rfl, k1, k2⟩

theorem flat_take {es : List AV} {sz : Nat} (h : ∀ e ∈ es, e.cells.length = sz) (n : Nat) : (es.take n).flatMap AV.cells = (es.flatMap AV.cells).take (n * sz) := by
  have := take_cells es 0 n sz h
  simpa using this
theorem flat_drop {es : List AV} {sz : Nat} (h : ∀ e ∈ es, e.cells.length = sz) (n : Nat) : (es.drop n).flatMap AV.cells = (es.flatMap AV.cells).drop (n * sz) := by
  have := take_cells es n es.length sz h
  rw [List.take_of_length_le (by rw [List.length_drop]; omega), List.take_of_length_le] at this
  · exact this
  · rw [List.length_drop, flat_len h]; omega

theorem recell_cells {e : AV} {cs : List AV} (hl : cs.length = e.cells.length) (hok : ∀ a ∈ cs, a.okC = true) : (e.recell cs).cells = cs := by
  by_cases hagg : ∃ xs, e = .agg xs
  · obtain ⟨xs, rfl⟩ := hagg; rfl
  · have hc : e.cells = [e] := by cases e <;> first | rfl | exact absurd ⟨_, rfl⟩ hagg
    rw [hc] at hl
    match cs, hl with
    | [a], _ =>
      have ha : a.okC = true := hok a (by simp)
      have : e.recell [a] = a := by cases e <;> first | rfl | exact absurd ⟨_, rfl⟩ hagg
      rw [this]
      cases a <;> first | rfl | cases ha

theorem row_elems (h : WR w0 G X Lo c) {b : Nat} {x : Blk} (hx : look c.S b = some x) (hk : x.k = .row) : ∀ e ∈ x.es, e.cells.length = x.sz ∧ ∀ a ∈ e.cells, a.okC = true := by
  obtain ⟨cells, t, lo, hi, g1, g2, _, g4⟩ := (h.blk b x hx (by rw [hk]; decide)).here
  exact (g4 hk).1

theorem flat_set {sz : Nat} {xs : List AV} {off : Nat} : ∀ {es : List AV} {i : Nat} {e e' : AV}, (∀ e ∈ es, e.cells.length = sz) → es[i]? = some e → off + xs.length ≤ e.cells.length →
    e'.cells = e.cells.take off ++ (xs ++ e.cells.drop (off + xs.length)) →
    (es.set i e').flatMap AV.cells = (es.flatMap AV.cells).take (i * sz + off) ++ (xs ++ (es.flatMap AV.cells).drop (i * sz + off + xs.length))
  | [], _, _, _, _, he, _, _ => by simp at he
  | a :: r, 0, e, e', h, he, hle, h' => by
    simp at he; subst he
    rw [List.set_cons_zero, List.flatMap_cons, List.flatMap_cons, h', Nat.zero_mul, Nat.zero_add]
    rw [List.take_append_of_le_length (by omega), List.drop_append_of_le_length (by omega)]
    simp [List.append_assoc]
  | a :: r, i + 1, e, e', h, he, hle, h' => by
    simp at he
    have ha := h a (by simp)
    have ih := flat_set (es := r) (i := i) (fun e he => h e (by simp [he])) he hle h'
    rw [List.set_cons_succ, List.flatMap_cons, List.flatMap_cons, ih]
    have e1 : List.take ((i + 1) * sz + off) a.cells = a.cells := List.take_of_length_le (by rw [ha, Nat.succ_mul]; omega)
    have e2 : List.drop ((i + 1) * sz + off + xs.length) a.cells = [] := List.drop_eq_nil_of_le (by rw [ha, Nat.succ_mul]; omega)
    rw [List.take_append, List.drop_append, e1, e2, ha, show (i + 1) * sz + off - sz = i * sz + off by rw [Nat.succ_mul]; omega,
      show (i + 1) * sz + off + xs.length - sz = i * sz + off + xs.length by rw [Nat.succ_mul]; omega]
    simp [List.append_assoc]

theorem store_ok (h : WR w0 G X Lo c) {t : TypeId} {p x : AV} {pv xv : Value} (hp : V c p pv) (hx : V c x xv) {ds : List (Nat × Blk)} (hr : aStore P c.S t p x = some ds) :
    ∃ c1, (Instr.storeAt t pv xv).run P c.w = .ok () c1.w ∧ c1.S = ds ++ c.S ∧ WR w0 G X Lo c1 ∧ Le c c1 := by
  unfold aStore at hr
  split at hr
  · rename_i hc
    obtain ⟨ti, hti⟩ := Option.isSome_iff_exists.1 hc.2.2
    obtain ⟨vs, e1, e2, e3, e4⟩ := hx.cells hc.2.1
    have hsize : xv.cells.size = P.cellsOf t := by rw [e1]; simp [← e2, hc.1]
    have hcells : xv.cells.toList = vs := by rw [e1]
    have hok : ∀ a ∈ x.cells, a.okC = true := fun a ha => List.all_eq_true.1 hc.2.1 a ha
    split at hr
    · rename_i b v i off
      obtain ⟨y0, hy1, hy2, hq⟩ := hp.ptr_inv
      split at hr
      · rename_i blk hb
        obtain ⟨h1, h2, h3⟩ := ldBlk_some hb
        have : blk = y0 := Option.some.inj (h1.symm.trans hy1)
        subst this
        obtain ⟨q1, q2⟩ := hq h2.symm
        split at hr
        · rename_i hk
          split at hr
          · rename_i hi
            split at hr
            · rename_i es hes
              cases hr
              obtain ⟨hle, rfl⟩ := splice_eq hes
              have hpv := q1 hk hi.1
              subst hpv
              obtain ⟨c1, g1, g2, g3, g4⟩ := box_write (P := P) h h1 hk hi.2 ⟨e2, e4⟩ hok e3 (o := off) hle
              refine ⟨c1, ?_, g2, g3, g4⟩
              simp [Instr.storeAt, Instr.sureAddr, storeVar, run_sizeOf hti, hsize, hcells, g1]
            · cases hr
          · cases hr
        · rename_i hk
          split at hr
          · cases hr
          · rename_i hfz
            have hfz : blk.fz = false := by simpa using hfz
            split at hr
            · rename_i e he
              split at hr
              · rename_i xs hxs
                split at hr
                · rename_i cs hcs
                  split at hr
                  · cases hr
                  · rename_i hnb
                    cases hr
                    obtain ⟨hle, rfl⟩ := splice_eq hcs
                    have hpv := q2 hk
                    subst hpv
                    obtain ⟨cF, f⟩ := freezeTo h (rowsA x)
                    have hrows : ∀ b ∈ x.cells.flatMap rowsC, b ∈ rowsA x := by
                      intro b hb
                      cases x <;> first | exact hb | (simp [AV.cells, rowsC, rowsA] at hb ⊢; try exact hb)
                    obtain ⟨p1, p2⟩ := mapO_pure h f hrows ⟨e2, e4⟩ hxs
                    have hnb' : b ∉ rowsA x := by
                      intro hh; apply hnb; simpa using hh
                    have hbF : look cF.S b = some blk := by rw [f.S, look_freeze, h1]; simp [hnb']
                    have hel := row_elems h h1 hk
                    have hu : ∀ e ∈ blk.es, e.cells.length = blk.sz := fun e he => (hel e he).1
                    have hie : i < blk.es.length := (List.getElem?_eq_some_iff.1 he).1
                    have hesz : e.cells.length = blk.sz := hu e (List.mem_of_getElem? he)
                    have hxl : xs.length = vs.length := p1.1
                    have hcl : (e.cells.take off ++ (xs ++ e.cells.drop (off + xs.length))).length = e.cells.length := by
                      simp only [List.length_append, List.length_take, List.length_drop]; omega
                    have hcok : ∀ a ∈ e.cells.take off ++ (xs ++ e.cells.drop (off + xs.length)), a.okC = true := by
                      intro a ha
                      rcases List.mem_append.1 ha with ha | ha
                      · exact (hel e (List.mem_of_getElem? he)).2 a (List.mem_of_mem_take ha)
                      · rcases List.mem_append.1 ha with ha | ha
                        · exact p2 a ha
                        · exact (hel e (List.mem_of_getElem? he)).2 a (List.mem_of_mem_drop ha)
                    have hrc := recell_cells hcl hcok
                    have hmul : i * blk.sz + blk.sz ≤ blk.es.length * blk.sz := by
                      have := Nat.mul_le_mul_right blk.sz (show i + 1 ≤ blk.es.length by omega)
                      rw [Nat.succ_mul] at this; exact this
                    have hfl := flat_len hu
                    have hflat : (blk.es.set i (e.recell (e.cells.take off ++ (xs ++ e.cells.drop (off + xs.length))))).flatMap AV.cells =
                        (blk.es.flatMap AV.cells).take (i * blk.sz + off) ++ (xs ++ (blk.es.flatMap AV.cells).drop (i * blk.sz + off + xs.length)) := by
                      exact flat_set hu he hle hrc
                    obtain ⟨c1, g1, g2, g3, g4⟩ := row_write (P := P) f.wr hbF hk hfz p1 e3 (o := i * blk.sz + off) (es' := blk.es.set i (e.recell (e.cells.take off ++ (xs ++ e.cells.drop (off + xs.length))))) (by rw [hfl]; omega) (by simp) hflat
                      (fun a ha => by
                        rcases List.mem_or_eq_of_mem_set ha with ha | rfl
                        · exact hel a ha
                        · rw [hrc]; exact ⟨by rw [hcl, hesz], hcok⟩)
                    refine ⟨c1, ?_, ?_, g3, f.le.trans g4⟩
                    · rw [f.w, f.R] at g1
                      simp [Instr.storeAt, Instr.sureAddr, storeVar, run_sizeOf hti, hsize, hcells, g1]
                    · rw [g2, f.S]; rfl
                · cases hr
              · cases hr
            · cases hr
        · cases hr
      · cases hr
    · cases hr
  · cases hr


/-- What is in a slice, as cells that can be read. -/
theorem elems_read (h : WR w0 G X Lo c) {a : AV} {val : Value} (hv : V c a val) (hns : ∀ s, a ≠ .str s) {es : List AV} (he : elemsOf c.S a = some es) {sz : Nat} (hsz : ∀ e ∈ es, e.cells.length = sz) :
    ∃ ad cap, ∃ vs : List Value, val = .slice ad es.length cap ∧ vs.length = es.length * sz ∧ PL c (es.flatMap AV.cells) vs ∧ (∀ e ∈ es, ∀ a ∈ e.cells, a.okC = true) ∧
      (es ≠ [] → ∃ b o, ad = some ⟨b, o, none⟩ ∧ ∀ (j : Nat) v, vs[j]? = some v → c.w.cell? ((⟨b, o, none⟩ : Addr).add j) = some v) := by
  cases a with
  | slc x l =>
    simp only [elemsOf] at he
    cases he
    have := hv.slc_inv
    cases this with
    | slc _ _ ad cap sz' vals hx hcap hs ha hl hp =>
      refine ⟨ad, cap, vals, rfl, by rw [hl, flat_len hsz], ⟨hl.symm, fun i a v h1 h2 => hp i a v h1 h2⟩, fun e he => (hs e he).2, fun hne => ?_⟩
      obtain ⟨b, o, h1, h2, h3, h4⟩ := ha hne
      exact ⟨b, o, h1, fun j v hj => by rw [add_zero _ _ rfl]; exact h4 j v hj⟩
  | sref b v off len =>
    simp only [elemsOf] at he
    unfold rowAt at he
    split at he
    · rename_i y hy
      split at he
      · rename_i hk
        cases he
        obtain ⟨h1, h2, h3⟩ := ldBlk_some hy
        obtain ⟨x, hx1, hx2, hx3⟩ := hv.sref_inv
        have : y = x := Option.some.inj (h1.symm.trans hx1)
        subst this
        obtain ⟨cap, cells0, tt, fr, rfl, e2, e3, e4, e5⟩ := hx3 h2.symm hk.1
        obtain ⟨cells, t, lo, hi, g1, g2, _, g4⟩ := (h.blk b y h1 h3).here
        obtain ⟨g5, g6⟩ := g4 hk.1
        have hu : ∀ e ∈ y.es, e.cells.length = y.sz := fun e he => (g5 e he).1
        have hlen : ((y.es.drop off).take len).length = len := by rw [List.length_take, List.length_drop]; omega
        have hcs := content_le (fun k a hk => let ⟨v, h1, _⟩ := g6 k a hk; ⟨v, h1⟩)
        rw [flat_len hu] at hcs
        have hmul : (off + len) * y.sz ≤ y.es.length * y.sz := Nat.mul_le_mul_right _ hk.2
        rw [Nat.add_mul] at hmul
        have htl : cells.toList.length = cells.size := Array.length_toList
        have hne_sz : (y.es.drop off).take len ≠ [] → sz = y.sz := by
          intro hne
          obtain ⟨e, he⟩ := List.exists_mem_of_ne_nil _ hne
          rw [← hsz e he, hu e (List.mem_of_mem_drop (List.mem_of_mem_take he))]
        have hvl : ((cells.toList.drop (off * y.sz)).take (len * y.sz)).length = len * y.sz := by rw [List.length_take, List.length_drop]; omega
        refine ⟨_, cap, (cells.toList.drop (off * y.sz)).take (len * y.sz), by rw [hlen], ?_, ⟨?_, fun i a u h1 h2 => ?_⟩, fun e he => (g5 e (List.mem_of_mem_drop (List.mem_of_mem_take he))).2, fun hne => ⟨_, _, rfl, fun j u hj => ?_⟩⟩
        · rw [hvl, hlen]
          by_cases hne : (y.es.drop off).take len = []
          · have : len = 0 := by rw [hne] at hlen; simpa using hlen.symm
            subst this; simp
          · rw [hne_sz hne]
        · rw [hvl, take_cells y.es off len y.sz hu, List.length_take, List.length_drop, flat_len hu]; omega
        · have := flat_take_get hu off len h1
          obtain ⟨u', hu1, hu2⟩ := g6 _ a this
          rw [List.getElem?_take] at h2
          split at h2
          · rw [List.getElem?_drop, Array.getElem?_toList, hu1] at h2
            cases h2
            exact hu2
          · cases h2
        · rw [add_zero _ _ rfl]
          rw [List.getElem?_take] at hj
          split at hj
          · rw [List.getElem?_drop, Array.getElem?_toList] at hj
            simp [World.cell?, g1, hj]
          · cases hj
      · cases he
    · cases he
  | str s => exact absurd rfl (hns s)
  | _ => simp [elemsOf] at he

theorem PL.one {as : List AV} {vs : List Value} (h : PL c as vs) (hok : ∀ a ∈ as, a.okC = true) : ∀ v ∈ vs, v.oneCell' = true := by
  intro v hv
  obtain ⟨i, hi, rfl⟩ := List.getElem_of_mem hv
  have hi' : i < as.length := by rw [h.1]; exact hi
  exact (V.pure (h.2 i as[i] vs[i] (List.getElem?_eq_getElem hi') (List.getElem?_eq_getElem hi))).oneCell (hok _ (List.getElem_mem hi'))

end
end Go.Ab
