/- append, copy, clear, make. -/
import Derived.Test.YtihgfpggdkhhaaaAbWr2
set_option linter.unusedVariables false
set_option linter.unusedSimpArgs false
namespace Go.Ab
open Go

section
variable {P : Program} {w0 : World} {G X Lo : Nat → Prop} {c : Cx}

theorem flat_bytes (s : List UInt8) : (s.map fun b : UInt8 => AV.int .u8 b.toNat).flatMap AV.cells = s.map fun b : UInt8 => AV.int .u8 b.toNat := by
  induction s with
  | nil => rfl
  | cons b r ih => rw [List.map_cons, List.flatMap_cons, ih]; rfl

/-- What 'append' is handed: so many elements, these cells. -/
structure Src (P : Program) (w : World) (xT : TypeId) (val : Value) (sz n : Nat) (news : List Value) : Prop where
  ty : ∃ d, P.underlying xT = some d ∧ ∀ k, d ≠ .int k
  len : (Builtin.lenOf val).run P w = .ok n w
  len' : ∀ w', (Builtin.lenOf val).run P w' = .ok n w'
  get : ∀ w', w'.heap = w.heap → (Builtin.firstCells sz n val).run P w' = .ok news.toArray w'

theorem cell_heap {w w' : World} (h : w'.heap = w.heap) (a : Addr) : w'.cell? a = w.cell? a := by simp [World.cell?, h]

theorem src_of (h : WR w0 G X Lo c) {xT : TypeId} {x : AV} {val : Value} {xs : List AV} (hv : V c x val) (ha : appended P c.S xT x = some xs) {sz : Nat} (hsz : ∀ e ∈ xs, e.cells.length = sz) :
    ∃ news : List Value, Src P c.w xT val sz xs.length news ∧ news.length = xs.length * sz ∧ PL c (xs.flatMap AV.cells) news ∧ (∀ e ∈ xs, ∀ a ∈ e.cells, a.okC = true) := by
  unfold appended at ha
  split at ha
  · rename_i hu
    split at ha
    · rename_i s
      cases ha
      have := hv.str_inv
      subst this
      have hlen : (⟨s.toArray⟩ : ByteArray).size = s.length := by simp [ByteArray.size]
      have hsz1 : s ≠ [] → sz = 1 := by
        intro hne
        obtain ⟨b, hb⟩ := List.exists_mem_of_ne_nil _ hne
        have := hsz (.int .u8 b.toNat) (List.mem_map.2 ⟨b, hb, rfl⟩)
        simpa [AV.cells] using this.symm
      have hflat := flat_bytes s
      refine ⟨s.map fun b => .int .u8 b.toNat, ⟨⟨_, hu, by simp⟩, by simp [Builtin.lenOf, hlen], by simp [Builtin.lenOf, hlen], fun w' _ => ?_⟩, ?_, ?_, ?_⟩
      · have := @ByteArray.extract_mk
        simp only [Builtin.firstCells, List.length_map]
        have e : ((⟨s.toArray⟩ : ByteArray).extract 0 s.length).data.map (fun b => Value.int .u8 b.toNat) = (s.map fun b => Value.int .u8 (b.toNat : Int)).toArray := by
          rw [ByteArray.extract_mk]; simp
        rw [e]; rfl
      · rw [List.length_map, List.length_map]
        by_cases hne : s = []
        · subst hne; simp
        · rw [hsz1 hne, Nat.mul_one]
      · rw [hflat]
        refine ⟨by simp, fun i a v h1 h2 => ?_⟩
        rw [List.getElem?_map] at h1 h2
        cases hb : s[i]? with
        | none => rw [hb] at h1; cases h1
        | some b => rw [hb] at h1 h2; cases h1; cases h2; exact .int _ _
      · intro e he a ha
        obtain ⟨b, _, rfl⟩ := List.mem_map.1 he
        simp [AV.cells] at ha; subst ha; rfl
    · cases ha
  · rename_i e hu
    split at ha
    · cases ha
    · rename_i hns
      obtain ⟨ad, cap, vs, rfl, h1, h2, h3, h4⟩ := elems_read h hv hns ha hsz
      refine ⟨vs, ⟨⟨_, hu, by simp⟩, by simp [Builtin.lenOf], by simp [Builtin.lenOf], fun w' hw' => ?_⟩, h1, h2, h3⟩
      by_cases hne : xs = []
      · subst hne
        have : vs = [] := List.eq_nil_of_length_eq_zero (by simpa using h1)
        subst this
        cases ad <;> simp [Builtin.firstCells, loadCells, loadCellsFrom]
      · obtain ⟨b, o, rfl, h5⟩ := h4 hne
        exact run_firstCells_some w' sz xs.length ⟨b, o, none⟩ xs.length cap vs h1 (fun j v hj => by rw [cell_heap hw']; exact h5 j v hj)
  · cases ha

/-- 'append' where there is room. -/
theorem append_room {w w1 : World} {sT xT ty e : TypeId} {i : TypeInfo} (ht : P.underlying sT = some (.slice e)) (hi : P.info? e = some i) {val : Value} {n : Nat} {news : List Value}
    (hs : Src P w xT val i.size n news) (base : Option Addr) (sLen sCap : Nat) (hroom : sLen + n ≤ sCap)
    (hst : (match base with | some a => (storeCells (a.add (sLen * i.size)) news).run P w = .ok () w1 | none => w1 = w)) :
    (Builtin.append_ #[sT, xT] ty #[.slice base sLen sCap, val]).run P w = .ok (.slice base (sLen + n) sCap) w1 := by
  obtain ⟨d, hd, hni⟩ := hs.ty
  have hg := hs.get w rfl
  cases base with
  | none =>
    subst hst
    simp [Builtin.append_, run_underlying ht, run_underlying hd, sizeOf, typeInfo, hi, hs.len, hroom, hg]
  | some a =>
    simp [Builtin.append_, run_underlying ht, run_underlying hd, sizeOf, typeInfo, hi, hs.len, hroom, hg, hst]

theorem append_grow {w : World} {sT xT ty e : TypeId} {i : TypeInfo} {z : Value} (ht : P.underlying sT = some (.slice e)) (hi : P.info? e = some i) (hzv : i.zero = some z) {val : Value} {n : Nat} {news : List Value}
    (hs : Src P w xT val i.size n news) (base : Option Addr) (sLen sCap : Nat) (hroom : sCap < sLen + n) (olds : List Value)
    (hold : ∀ w', w'.heap = w.heap → (Builtin.firstCells i.size sLen (.slice base sLen sCap)).run P w' = .ok olds.toArray w')
    (hfit : (sLen + n) * i.bytes ≤ 1000000000000) (hn : sLen + n ≤ 1000000000000) :
    (Builtin.append_ #[sT, xT] ty #[.slice base sLen sCap, val]).run P w =
      .ok (.slice (some ⟨w.heap.size, 0, none⟩) (sLen + n) (grownCap w (sLen + n) sCap e))
        (w.drew.alloc (.cells (olds.toArray ++ (news.toArray ++ Builtin.zeroCells z.cells (grownCap w (sLen + n) sCap e - (sLen + n)))) e)) := by
  obtain ⟨d, hd, hni⟩ := hs.ty
  have hn' : ¬ (sLen + n ≤ sCap) := by omega
  have hfit2 : Builtin.nextslicecap (sLen + n) sCap * i.bytes ≤ 281474976710656 := growslice_fits hroom (by omega)
  have h63' : ¬ (9223372036854775807 < ((sLen : Int) + (n : Int))) := by omega
  have h48' : ¬ (281474976710656 < Builtin.nextslicecap (sLen + n) sCap * i.bytes) := by omega
  have hg := hs.get w.drew rfl
  have hfo := hold w.drew rfl
  simp [Builtin.append_, run_underlying ht, run_underlying hd, sizeOf, typeInfo, zeroValue, hi, hzv, hs.len, hn', h63', h48', Question.forced, hg, hfo, Go.newRow, grownCap]


theorem zeroOf_info {e : TypeId} (h : (zeroOf P e).isSome = true) : ∃ i z, P.info? e = some i ∧ i.zero = some z ∧ z.cells.size = i.size := by
  unfold zeroOf at h
  split at h
  · rename_i i hi
    split at h
    · rename_i z hz
      split at h
      · rename_i hok
        refine ⟨i, z, hi, hz, ?_⟩
        obtain ⟨vs, e1, e2, _⟩ := (V.pure (c := ⟨default, fun _ => False, id, []⟩) (ofVal_V z hok.1)).cells hok.1
        rw [e1]
        have : P.cellsOf e = i.size := by simp [Program.cellsOf, hi]
        rw [← this, ← hok.2, e2]; rfl
      · cases h
    · cases h
  · cases h

theorem grown_le (w : World) (need old : Nat) (e : TypeId) : need ≤ grownCap w need old e := by
  unfold grownCap Question.cut
  exact Nat.le_add_right _ _

theorem zeroCells_size (zero : Array Value) (n : Nat) : (Builtin.zeroCells zero n).size = n * zero.size := by simp [Builtin.zeroCells]

theorem PL.append {as bs : List AV} {us vs : List Value} (h : PL c as us) (h' : PL c bs vs) : PL c (as ++ bs) (us ++ vs) := by
  refine ⟨by simp [h.1, h'.1], fun i a v h1 h2 => ?_⟩
  by_cases hi : i < as.length
  · rw [List.getElem?_append_left hi] at h1
    rw [List.getElem?_append_left (by have := h.1; omega)] at h2
    exact h.2 i a v h1 h2
  · rw [List.getElem?_append_right (by omega)] at h1
    rw [List.getElem?_append_right (by have := h.1; omega), ← h.1] at h2
    exact h'.2 _ a v h1 h2

theorem PL.content {as : List AV} {us : List Value} (h : PL c as us) (rest : Array Value) : PContent c as (us.toArray ++ rest) := by
  intro k a hk
  have hlt := (List.getElem?_eq_some_iff.1 hk).1
  have hlu : k < us.length := by rw [← h.1]; exact hlt
  have hu : us[k]? = some us[k] := List.getElem?_eq_getElem hlu
  refine ⟨us[k], ?_, h.2 k a _ hk hu⟩
  rw [Array.getElem?_append_left (by simpa using hlu)]
  simp

theorem freeze_nil (bs : List (Nat × Blk)) : freeze bs [] = [] := rfl

theorem frz_nil (h : WR w0 G X Lo c) : FrzTo w0 G X Lo c c [] := ⟨rfl, h, Le.refl _, rfl, rfl⟩

theorem PContent.tail {L ps : List AV} {cells : Array Value} {vs : List Value} {o : Nat} (h : PContent c L cells) (hp : PL c ps vs) (ho : o ≤ L.length) (hle : o + vs.length ≤ cells.size) :
    PContent c (L.take o ++ ps) (cells.toList.take o ++ vs ++ cells.toList.drop (o + vs.length)).toArray := by
  intro k a hk
  rw [arr_splice_get hle]
  by_cases h1 : k < o
  · rw [List.getElem?_append_left (by rw [List.length_take]; omega), List.getElem?_take, if_pos h1] at hk
    rw [if_neg (by omega)]
    exact h k a hk
  · rw [List.getElem?_append_right (by rw [List.length_take]; omega), List.length_take, show k - min o L.length = k - o by omega] at hk
    have hlt := (List.getElem?_eq_some_iff.1 hk).1
    have hlv : k - o < vs.length := by rw [← hp.1]; exact hlt
    rw [if_pos (by omega)]
    have hv : vs[k - o]? = some vs[k - o] := List.getElem?_eq_getElem hlv
    exact ⟨_, hv, hp.2 _ _ _ hk hv⟩

theorem PContent.pl {L : List AV} {cells : Array Value} (h : PContent c L cells) {o : Nat} (ho : o ≤ L.length) : PL c (L.take o) (cells.toList.take o) := by
  have hcs := content_le (fun k a hk => let ⟨v, h1, _⟩ := h k a hk; ⟨v, h1⟩)
  have htl : cells.toList.length = cells.size := Array.length_toList
  refine ⟨by rw [List.length_take, List.length_take]; omega, fun i a v h1 h2 => ?_⟩
  rw [List.getElem?_take] at h1 h2
  split at h1
  · rename_i hi
    rw [if_pos hi, Array.getElem?_toList] at h2
    obtain ⟨u, g1, g2⟩ := h i a h1
    rw [g1] at h2; cases h2; exact g2
  · cases h1

theorem append_ok (h : WR w0 G X Lo c) {d : Option Tmp} {sT xT ty : TypeId} {s x : AV} {sv xv : Value} (hs : V c s sv) (hx : V c x xv) {v : AV} {ds : List (Nat × Blk)}
    (hr : aAppend P c.S d sT xT s x = some (.val v ds)) : MOk P w0 G X Lo c (Builtin.append_ #[sT, xT] ty #[sv, xv]) v ds := by
  unfold aAppend at hr
  split at hr
  · rename_i e hu
    split at hr
    · rename_i xs hxs
      split at hr
      · rename_i hc
        have hsz := all_sz hc.1
        obtain ⟨i, z, hi, hz, hzs⟩ := zeroOf_info hc.2.2
        have hcs : P.cellsOf e = i.size := by simp [Program.cellsOf, hi]
        rw [hcs] at hsz
        have hbo : P.bytesOf e = i.bytes := by simp [Program.bytesOf, hi]
        obtain ⟨news, hsrc, hnl, hpl, hok⟩ := src_of h hx hxs hsz
        split at hr
        · rename_i cc es
          obtain ⟨a, n0, cap, rfl, hn0, hcap0, hcc0⟩ : ∃ a n0 cap, sv = .slice a n0 cap ∧ n0 = es.length ∧ es.length ≤ cap ∧ (cc = true → cap = es.length) := by
            have := hs.slc_inv; cases this; exact ⟨_, _, _, rfl, rfl, by assumption, by assumption⟩
          subst hn0
          split at hr
          · rename_i he
            cases hr
            have hxe : xs = [] := by simpa using he
            subst hxe
            have hne : news = [] := List.eq_nil_of_length_eq_zero (by simpa using hnl)
            subst hne
            refine ⟨_, c, append_room (w1 := c.w) hu hi hsrc a es.length cap (by simpa using hcap0) (by cases a <;> simp [storeCells]), rfl, h, Le.refl _, ?_⟩
            simpa using hs
          · rename_i he
            split at hr
            · rename_i hg
              have hall := all_sz hg.2.2
              rw [hcs] at hall
              have hcap := hcc0 hg.1
              subst hcap
              have hfit := hg.2.1
              simp only [bytesFit, decide_eq_true_eq, hbo] at hfit
              have hpos : 0 < xs.length := by
                rcases Nat.eq_zero_or_pos xs.length with h0 | h0
                · exact absurd (by simp [List.eq_nil_of_length_eq_zero h0]) he
                · exact h0
              obtain ⟨ad, cap', olds, e1, o1, o2, o3, o4⟩ := elems_read (es := es) h hs (by simp) rfl hall
              cases e1
              have hold : ∀ w', w'.heap = c.w.heap → (Builtin.firstCells i.size es.length (.slice a es.length es.length)).run P w' = .ok olds.toArray w' := by
                intro w' hw'
                by_cases hne : es = []
                · subst hne
                  have : olds = [] := List.eq_nil_of_length_eq_zero (by simpa using o1)
                  subst this
                  cases a <;> simp [Builtin.firstCells, loadCells, loadCellsFrom]
                · obtain ⟨b, o, rfl, h5⟩ := o4 hne
                  exact run_firstCells_some w' i.size es.length ⟨b, o, none⟩ es.length es.length olds o1 (fun j v hj => by rw [cell_heap hw']; exact h5 j v hj)
              have hrun := append_grow (ty := ty) hu hi hz hsrc a es.length es.length (by omega) olds hold hfit.1 hfit.2.1
              have hgl := grown_le c.w (es.length + xs.length) es.length e
              have hsize : ((olds.toArray ++ (news.toArray ++ Builtin.zeroCells z.cells (grownCap c.w (es.length + xs.length) es.length e - (es.length + xs.length))))).size = grownCap c.w (es.length + xs.length) es.length e * i.size := by
                simp only [Array.size_append, List.size_toArray, zeroCells_size, hzs, o1, hnl]
                rw [← Nat.add_assoc, ← Nat.add_mul, ← Nat.add_mul]
                congr 1
                omega
              rw [hcs, ← freeze_nil c.S] at hr
              obtain ⟨c1, k1, k2, k3, k4, k5⟩ := row_push (frz_nil h) c.w.drew rfl rfl rfl hr _ e 0 0 (.inl rfl)
                (fun y hy => by
                  rcases List.mem_append.1 hy with hy | hy
                  · exact ⟨hall y hy, o3 y hy⟩
                  · exact ⟨hsz y hy, hok y hy⟩)
                (by
                  rw [List.flatMap_append]
                  have := (o2.append hpl).content (Builtin.zeroCells z.cells (grownCap c.w (es.length + xs.length) es.length e - (es.length + xs.length)))
                  have e2 : (olds ++ news).toArray ++ Builtin.zeroCells z.cells (grownCap c.w (es.length + xs.length) es.length e - (es.length + xs.length)) =
                    olds.toArray ++ (news.toArray ++ Builtin.zeroCells z.cells (grownCap c.w (es.length + xs.length) es.length e - (es.length + xs.length))) := by
                    apply Array.ext'; simp
                  rw [e2] at this
                  exact this)
                (grownCap c.w (es.length + xs.length) es.length e) (by simpa using hgl) (by rw [hsize]; exact Nat.le_refl _)
              refine ⟨.slice (some ⟨c.w.heap.size, 0, none⟩) (es.length + xs.length) (grownCap c.w (es.length + xs.length) es.length e), c1, ?_, k2, k3, k4, ?_⟩
              · rw [hrun, k1]; rfl
              · simpa using k5
            · cases hr
        · rename_i b v0 off len
          split at hr
          · rename_i blk hb
            split at hr
            · rename_i hk
              obtain ⟨h1, h2, h3⟩ := ldBlk_some hb
              obtain ⟨x', hx1, hx2, hx3⟩ := hs.sref_inv
              have : blk = x' := Option.some.inj (h1.symm.trans hx1)
              subst this
              obtain ⟨cap, cells0, tt, fr0, rfl, e2, e3, e4, e5⟩ := hx3 h2.symm hk.1
              have hbsz : blk.sz = i.size := by rw [hk.2.2, hcs]
              split at hr
              · rename_i he
                cases hr
                have hxe : xs = [] := by simpa using he
                subst hxe
                have hne : news = [] := List.eq_nil_of_length_eq_zero (by simpa using hnl)
                subst hne
                refine ⟨_, c, append_room (w1 := c.w) hu hi hsrc _ len cap (by simpa using e3) (by simp [storeCells]), rfl, h, Le.refl _, ?_⟩
                simpa using hs
              · rename_i he
                split at hr
                · cases hr
                · rename_i hfz
                  have hfz : blk.fz = false := by simpa using hfz
                  have hel := row_elems h h1 hk.1
                  have hue : ∀ e ∈ blk.es, e.cells.length = blk.sz := fun e he => (hel e he).1
                  have hfl := flat_len hue
                  have hone := hpl.one (fun a ha => by
                    obtain ⟨y, hy, hy2⟩ := List.mem_flatMap.1 ha
                    exact hok y hy a hy2)
                  have hxfl : (xs.flatMap AV.cells).length = xs.length * blk.sz := by rw [hbsz]; exact flat_len hsz
                  split at hr
                  · rename_i hin
                    cases hr
                    have hm1 : (off + len) * blk.sz + xs.length * blk.sz ≤ blk.es.length * blk.sz := by
                      rw [← Nat.add_mul]; exact Nat.mul_le_mul_right _ hin
                    obtain ⟨c1, g1, g2, g3, g4⟩ := row_write (P := P) h h1 hk.1 hfz hpl hone (o := (off + len) * blk.sz) (es' := blk.es.take (off + len) ++ (xs ++ blk.es.drop (off + len + xs.length)))
                      (by rw [hfl, hxfl]; exact hm1) (by simp only [List.length_append, List.length_take, List.length_drop]; omega)
                      (by
                        rw [List.flatMap_append, List.flatMap_append, flat_take hue, flat_drop hue, hxfl, ← Nat.add_mul])
                      (fun y hy => by
                        rcases List.mem_append.1 hy with hy | hy
                        · exact hel y (List.mem_of_mem_take hy)
                        · rcases List.mem_append.1 hy with hy | hy
                          · exact ⟨by rw [hbsz]; exact hsz y hy, hok y hy⟩
                          · exact hel y (List.mem_of_mem_drop hy))
                    have hroom : len + xs.length ≤ cap := by omega
                    have hadd : (⟨c.R b, off * blk.sz, none⟩ : Addr).add (len * i.size) = ⟨c.R b, (off + len) * blk.sz, none⟩ := by
                      rw [add_zero _ _ rfl, hbsz, Nat.add_mul]
                    refine ⟨.slice (some ⟨c.R b, off * blk.sz, none⟩) (len + xs.length) cap, c1, append_room (w1 := c1.w) hu hi hsrc _ len cap hroom (by simp only [hadd]; exact g1), g2, g3, g4, ?_⟩
                    have hb1 : look c1.S b = some { blk with es := blk.es.take (off + len) ++ (xs ++ blk.es.drop (off + len + xs.length)) } := by rw [g2]; simp [look_cons]
                    obtain ⟨xx, y1, y2, y3⟩ := g4.hS b blk h1
                    have : xx = { blk with es := blk.es.take (off + len) ++ (xs ++ blk.es.drop (off + len + xs.length)) } := Option.some.inj (y1.symm.trans hb1)
                    subst this
                    obtain ⟨z1, z2, z3, z4, _, z5⟩ := y3 rfl (by show blk.k ≠ .dead; exact h3)
                    obtain ⟨cells1, t1, f1, z6, z7⟩ := z5 _ _ _ e4
                    refine .sref _ _ _ _ _ rfl _ hb1 (by show v0 ≤ blk.v; omega) (fun _ _ => ⟨cap, cells1, t1, f1, by rw [z2], ?_, hroom, z6, by rw [z7]; exact e5⟩)
                    rw [z4 hk.1]; exact e2
                  · rename_i hin
                    split at hr
                    · rename_i hoff
                      split at hr
                      · rename_i k hkey
                        cases hr
                        have hoff0 := hoff.1
                        subst hoff0
                        have hfit := hoff.2
                        simp only [bytesFit, decide_eq_true_eq, hbo] at hfit
                        obtain ⟨cells, t, lo, hi', g1, g2, _, g4⟩ := (h.blk b blk h1 h3).here
                        obtain ⟨g5, g6⟩ := g4 hk.1
                        rw [e4] at g1
                        injection g1 with g1
                        injection g1 with g11 g12 g13
                        subst g11; subst g12; subst g13
                        have hlen : len ≤ blk.es.length := by omega
                        have hmlen : len * blk.sz ≤ blk.es.length * blk.sz := Nat.mul_le_mul_right _ hlen
                        have hnl' : news.length = xs.length * blk.sz := by rw [hnl, hbsz]
                        simp only [Nat.zero_mul, Nat.zero_add] at e5 e2 hin
                        have hel' : ∀ y ∈ blk.es.take len ++ xs, y.cells.length = blk.sz ∧ ∀ a ∈ y.cells, a.okC = true := by
                          intro y hy
                          rcases List.mem_append.1 hy with hy | hy
                          · exact hel y (List.mem_of_mem_take hy)
                          · exact ⟨by rw [hbsz]; exact hsz y hy, hok y hy⟩
                        have hflat' : (blk.es.take len ++ xs).flatMap AV.cells = (blk.es.flatMap AV.cells).take (len * blk.sz) ++ xs.flatMap AV.cells := by
                          rw [List.flatMap_append, flat_take hue]
                        have hlen' : (blk.es.take len ++ xs).length = len + xs.length := by rw [List.length_append, List.length_take]; omega
                        by_cases hroom : len + xs.length ≤ cap
                        · have hm2 : (len + xs.length) * blk.sz ≤ cap * blk.sz := Nat.mul_le_mul_right _ hroom
                          rw [Nat.add_mul] at hm2
                          have hle : len * blk.sz + news.length ≤ cells0.size := by rw [hnl']; omega
                          have hrun := run_storeCells (P := P) (c.R b) (len * blk.sz) tt lo hi' news 0 cells0 c.w e4 (fr_ok g2) (by omega) hone
                          simp only [Nat.add_zero] at hrun
                          have hss := arr_splice_size hle
                          obtain ⟨k1, k2⟩ := h.regrow b blk { v := nextV c.S k, k := .row, fz := false, sz := blk.sz, es := blk.es.take len ++ xs } h1 h3 hfz k rfl rfl rfl
                            cells0 _ tt tt (lo, hi') lo hi' e4 (by rw [hss]; exact g2) _ (setRow_heap_eq c.w (c.R b) cells0 _ tt (lo, hi') e4) rfl rfl
                            ⟨hel', by
                              show PContent c ((blk.es.take len ++ xs).flatMap AV.cells) _
                              rw [hflat']
                              exact g6.tail hpl (by rw [hfl]; exact hmlen) hle⟩
                          have hadd : (⟨c.R b, 0 * blk.sz, none⟩ : Addr).add (len * i.size) = ⟨c.R b, len * blk.sz, none⟩ := by
                            rw [add_zero _ _ rfl, hbsz]; simp
                          refine ⟨.slice (some ⟨c.R b, 0 * blk.sz, none⟩) (len + xs.length) cap, _, append_room hu hi hsrc _ len cap hroom (by simp only [hadd]; exact hrun), ?_, k1, k2, ?_⟩
                          · show (k, _) :: deadIf k b blk c.S = _
                            unfold deadIf
                            split <;> rfl
                          · refine .sref _ _ _ _ _ rfl { v := nextV c.S k, k := .row, fz := false, sz := blk.sz, es := blk.es.take len ++ xs } (by simp [look_cons]) (Nat.le_refl _) (fun _ _ => ⟨cap, (cells0.toList.take (len * blk.sz) ++ news ++ cells0.toList.drop (len * blk.sz + news.length)).toArray, tt, (lo, hi'), ?_, ?_, hroom, ?_, ?_⟩)
                            · show Value.slice (some ⟨c.R b, _, none⟩) _ _ = Value.slice (some ⟨updR c.R k (c.R b) k, _, none⟩) _ _
                              simp [updR]
                            · show (blk.es.take len ++ xs).length ≤ _
                              rw [hlen']; omega
                            · show (c.w.setRow (c.R b) _).heap[updR c.R k (c.R b) k]? = _
                              simp only [updR, if_true]
                              exact setRow_heap c.w (c.R b) cells0 _ tt (lo, hi') e4
                            · show (0 + cap) * blk.sz ≤ _
                              rw [hss, Nat.zero_add]; exact e5
                        · -- a new row; the old one is no more
                          have hpl0 := g6.pl (o := len * blk.sz) (by rw [hfl]; exact hmlen)
                          have hcs := content_le (fun k a hk => let ⟨v, h1, _⟩ := g6 k a hk; ⟨v, h1⟩)
                          rw [hfl] at hcs
                          have htl : cells0.toList.length = cells0.size := Array.length_toList
                          have hol : (cells0.toList.take (len * blk.sz)).length = len * i.size := by rw [List.length_take, ← hbsz]; omega
                          have hold : ∀ w', w'.heap = c.w.heap → (Builtin.firstCells i.size len (.slice (some ⟨c.R b, 0 * blk.sz, none⟩) len cap)).run P w' = .ok (cells0.toList.take (len * blk.sz)).toArray w' := by
                            intro w' hw'
                            refine run_firstCells_some w' i.size len ⟨c.R b, 0 * blk.sz, none⟩ len cap _ hol (fun j v hj => ?_)
                            rw [add_zero _ _ rfl, cell_heap hw']
                            rw [List.getElem?_take] at hj
                            split at hj
                            · rw [Array.getElem?_toList] at hj
                              simp [World.cell?, e4, hj]
                            · cases hj
                          have hrun := append_grow (ty := ty) hu hi hz hsrc (some ⟨c.R b, 0 * blk.sz, none⟩) len cap (by omega) _ hold hfit.1 hfit.2.1
                          have hgl := grown_le c.w (len + xs.length) cap e
                          have hsize : (((cells0.toList.take (len * blk.sz)).toArray ++ (news.toArray ++ Builtin.zeroCells z.cells (grownCap c.w (len + xs.length) cap e - (len + xs.length))))).size = grownCap c.w (len + xs.length) cap e * i.size := by
                            simp only [Array.size_append, List.size_toArray, zeroCells_size, hzs, hol, hnl]
                            rw [← Nat.add_assoc, ← Nat.add_mul, ← Nat.add_mul]
                            congr 1
                            omega
                          have hcont : PContent c ((blk.es.take len ++ xs).flatMap AV.cells) ((cells0.toList.take (len * blk.sz)).toArray ++ (news.toArray ++ Builtin.zeroCells z.cells (grownCap c.w (len + xs.length) cap e - (len + xs.length)))) := by
                            rw [hflat']
                            have := (hpl0.append hpl).content (Builtin.zeroCells z.cells (grownCap c.w (len + xs.length) cap e - (len + xs.length)))
                            have e2 : (cells0.toList.take (len * blk.sz) ++ news).toArray ++ Builtin.zeroCells z.cells (grownCap c.w (len + xs.length) cap e - (len + xs.length)) =
                              (cells0.toList.take (len * blk.sz)).toArray ++ (news.toArray ++ Builtin.zeroCells z.cells (grownCap c.w (len + xs.length) cap e - (len + xs.length))) := by
                              apply Array.ext'; simp
                            rw [e2] at this
                            exact this
                          have hkill : ∃ cK, cK.S = (if k = b then [] else [(b, { blk with k := .dead })]) ++ c.S ∧ WR w0 G X Lo cK ∧ Le c cK ∧ cK.w = c.w ∧ cK.R = c.R ∧ nextV cK.S k = nextV c.S k := by
                            by_cases hkb : k = b
                            · rw [if_pos hkb]
                              exact ⟨c, rfl, h, Le.refl _, rfl, rfl, rfl⟩
                            · rw [if_neg hkb]
                              obtain ⟨q1, q2⟩ := h.setA b blk { blk with k := .dead } h1 rfl rfl rfl (.inr rfl) (.inl rfl)
                              refine ⟨_, rfl, q1, q2, rfl, rfl, ?_⟩
                              show nextV ((b, _) :: c.S) k = _
                              simp only [nextV, look_cons]
                              rw [if_neg (fun h => hkb h.symm)]
                          obtain ⟨cK, q1, q2, q3, q4, q5, q6⟩ := hkill
                          obtain ⟨p1, p2⟩ := q2.push c.w.drew (by rw [q4]; rfl) (by rw [q4]; rfl) (by rw [q4]; rfl) k { v := nextV c.S k, k := .row, fz := false, sz := blk.sz, es := blk.es.take len ++ xs } q6.symm (by simp) rfl
                            _ e 0 0 (.inl rfl) (fun hh => by cases hh) (fun _ => ⟨hel', hcont.mono q3⟩)
                          refine ⟨.slice (some ⟨c.w.heap.size, 0, none⟩) (len + xs.length) (grownCap c.w (len + xs.length) cap e), _, ?_, ?_, p1, q3.trans p2, ?_⟩
                          · rw [hrun]; rfl
                          · show (k, _) :: cK.S = _; rw [q1]; rfl
                          · refine .sref _ _ _ _ _ rfl { v := nextV c.S k, k := .row, fz := false, sz := blk.sz, es := blk.es.take len ++ xs } (by simp [look_cons]) (Nat.le_refl _) (fun _ _ => ⟨grownCap c.w (len + xs.length) cap e, (cells0.toList.take (len * blk.sz)).toArray ++ (news.toArray ++ Builtin.zeroCells z.cells (grownCap c.w (len + xs.length) cap e - (len + xs.length))), e, (0, 0), ?_, ?_, hgl, ?_, ?_⟩)
                            · show Value.slice (some ⟨c.w.heap.size, _, none⟩) _ _ = Value.slice (some ⟨updR cK.R k cK.w.heap.size k, _, none⟩) _ _
                              simp [updR, q4]
                            · show (blk.es.take len ++ xs).length ≤ _
                              rw [hlen']; omega
                            · show (c.w.drew.heap.push _)[updR cK.R k cK.w.heap.size k]? = _
                              simp only [updR, if_true, q4]
                              exact Array.getElem?_push_size
                            · show (0 + _) * blk.sz ≤ _
                              rw [hsize, Nat.zero_add, hbsz]; exact Nat.le_refl _
                      · cases hr
                    · cases hr
            · cases hr
          · cases hr
        · cases hr
      · cases hr
    · cases hr
  · cases hr

end
end Go.Ab
