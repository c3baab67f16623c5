/- Conversions. -/
import Derived.Test.YtacpbgkljdgmlaaAbRow
import Derived.Laws.BytesString
set_option linter.unusedVariables false
set_option linter.unusedSimpArgs false
namespace Go.Ab
open Go

section
variable {P : Program} {w0 : World} {G X Lo : Nat → Prop} {c : Cx}

theorem bytesOf_cells : ∀ {es : List AV} {l : List UInt8}, bytesOf? es = some l → ∃ ns : List Int, es = ns.map (AV.int .u8) ∧ l = ns.map fun n => UInt8.ofNat n.toNat
  | [], l, h => by simp [bytesOf?] at h; subst h; exact ⟨[], rfl, rfl⟩
  | a :: r, l, h => by
    cases a with
    | int k n =>
      cases k <;> simp only [bytesOf?] at h <;> first | cases h | skip
      split at h
      · rename_i l' hl
        cases h
        obtain ⟨ns, h1, h2⟩ := bytesOf_cells hl
        exact ⟨n :: ns, by rw [h1]; rfl, by rw [h2]; rfl⟩
      · cases h
    | _ => simp [bytesOf?] at h

theorem fold_push : ∀ (l : List UInt8) (s : List UInt8), l.foldl (fun (r : ByteArray) b => r.push b) ⟨s.toArray⟩ = ⟨(s ++ l).toArray⟩
  | [], s => by simp
  | b :: l, s => by
    simp only [List.foldl_cons]
    have : (⟨s.toArray⟩ : ByteArray).push b = ⟨(s ++ [b]).toArray⟩ := by
      apply ByteArray.ext; simp [ByteArray.push]
    rw [this, fold_push l (s ++ [b]), List.append_assoc]; rfl

theorem bytes_run (h : WR w0 G X Lo c) {x : AV} {val : Value} (hv : V c x val) (hns : ∀ s, x ≠ .str s) {es : List AV} (he : elemsOf c.S x = some es) {l : List UInt8} (hb : bytesOf? es = some l) :
    (Conv.bytesToString val).run P c.w = .ok (.string ⟨l.toArray⟩) c.w := by
  obtain ⟨ns, rfl, rfl⟩ := bytesOf_cells hb
  have hsz : ∀ e ∈ ns.map (AV.int .u8), e.cells.length = 1 := fun e he => by
    obtain ⟨n, _, rfl⟩ := List.mem_map.1 he; rfl
  obtain ⟨ad, cap, vs, rfl, h1, h2, h3, h4⟩ := elems_read h hv hns he hsz
  by_cases hne : ns = []
  · subst hne
    have hvs : vs = [] := List.eq_nil_of_length_eq_zero (by simpa using h1)
    cases ad with
    | none => simp [Conv.bytesToString]; rfl
    | some a =>
      have := run_bytesToString (P := P) c.w a 0 cap [] (by simp [loadCells, loadCellsFrom])
      exact this
  · obtain ⟨b, o, rfl, h5⟩ := h4 (by simpa using hne)
    have hflat : (ns.map (AV.int .u8)).flatMap AV.cells = ns.map (AV.int .u8) := by
      clear h1 h2 h3 h4 h5 hsz hne he hv hb
      induction ns with
      | nil => rfl
      | cons n r ih => rw [List.map_cons, List.flatMap_cons, ih]; rfl
    rw [hflat] at h2
    have hvs : vs = ns.map (Value.int .u8) := by
      apply List.ext_getElem?
      intro i
      rw [List.getElem?_map]
      have hl := h2.1
      rw [List.length_map] at hl
      cases hn : ns[i]? with
      | none =>
        have := List.getElem?_eq_none_iff.1 hn
        rw [List.getElem?_eq_none (by omega)]; rfl
      | some n =>
        have hlt := (List.getElem?_eq_some_iff.1 hn).1
        have hu : vs[i]? = some (vs[i]'(by omega)) := List.getElem?_eq_getElem (by omega)
        have := h2.2 i (.int .u8 n) _ (by rw [List.getElem?_map, hn]; rfl) hu
        rw [hu]
        have e := (V.pure (c := c) this).int_inv
        rw [e]; rfl
    have hlen : (ns.map (AV.int .u8)).length = vs.length := by rw [hvs]; simp
    have hload := run_loadCells_list (P := P) c.w ⟨b, o, none⟩ vs h5
    have := run_bytesToString (P := P) c.w ⟨b, o, none⟩ (ns.map (AV.int .u8)).length cap ns (by rw [hlen, hload, hvs])
    rw [this]
    congr 2
    have := fold_push (ns.map fun n => UInt8.ofNat n.toNat) []
    rw [List.foldl_map] at this
    exact this

theorem freeze_push (w : World) (cells : Array Value) (e : TypeId) : ({ w with heap := w.heap.push (.cells cells e (0, 0)) } : World).freeze { block := w.heap.size, off := cells.size } 1 =
    { w with heap := w.heap.push (.cells cells e (cells.size, cells.size + 1)) } := by
  unfold World.freeze
  simp only [Nat.succ_ne_zero, if_false]
  congr 1
  apply Array.ext_getElem?
  intro k
  rw [Array.getElem?_modify]
  by_cases hk : w.heap.size = k
  · subst hk
    simp
  · rw [if_neg hk]
    rw [Array.getElem?_push, Array.getElem?_push, if_neg (fun h => hk h.symm), if_neg (fun h => hk h.symm)]

theorem freeze_other (w : World) (b n k : Nat) (hk : k ≠ b) : (w.freeze { block := b, off := n } 1).heap[k]? = w.heap[k]? := by
  unfold World.freeze
  simp only [Nat.succ_ne_zero, if_false]
  rw [Array.getElem?_modify, if_neg (fun h => hk h.symm)]

theorem conv_ok (h : WR w0 G X Lo c) {d : Option Tmp} {src dst : TypeId} {x : AV} {val : Value} (hv : V c x val) {v : AV} {ds : List (Nat × Blk)}
    (hr : aConv P c.S d src dst x = some (.val v ds)) : MOk P w0 G X Lo c (convert src dst val) v ds := by
  unfold aConv at hr
  split at hr
  · rename_i k n
    rw [hv.int_inv]
    split at hr
    · rename_i k' hd
      split at hr
      · rename_i hs
        cases hr
        obtain ⟨sd, hsd⟩ := Option.isSome_iff_exists.1 hs
        exact ⟨_, c, by simp [convert, run_underlying hsd, run_underlying hd, Conv.intToInt], rfl, h, Le.refl _, .pure (.int _ _)⟩
      · cases hr
    · cases hr
  · rename_i s
    rw [hv.str_inv]
    split at hr
    · rename_i hd
      split at hr
      · rename_i hs
        cases hr
        obtain ⟨sd, hsd⟩ := Option.isSome_iff_exists.1 hs
        exact ⟨_, c, by simp [convert, run_underlying hsd, run_underlying hd], rfl, h, Le.refl _, .pure (.str _)⟩
      · cases hr
    · rename_i e hd
      split at hr
      · rename_i he
        split at hr
        · rename_i hs
          obtain ⟨sd, hsd⟩ := Option.isSome_iff_exists.1 hs.1
          have hlen : (⟨s.toArray⟩ : ByteArray).size = s.length := by simp [ByteArray.size]
          have hgl := grown_le c.w s.length 0 e
          have helems : (s.map fun b : UInt8 => Value.int .u8 (b.toNat : Int)).toArray.size = s.length := by simp
          have hsize : ((s.map fun b : UInt8 => Value.int .u8 (b.toNat : Int)).toArray ++ Array.replicate (grownCap c.w s.length 0 e - s.length) (Value.int .u8 0)).size = grownCap c.w s.length 0 e := by
            simp; omega
          rw [← freeze_nil c.S] at hr
          obtain ⟨c1, k1, k2, k3, k4, k5⟩ := row_push (frz_nil h) c.w.drew rfl rfl rfl hr ((s.map fun b : UInt8 => Value.int .u8 (b.toNat : Int)).toArray ++ Array.replicate (grownCap c.w s.length 0 e - s.length) (Value.int .u8 0)) e (grownCap c.w s.length 0 e) (grownCap c.w s.length 0 e + 1)
            (.inr (by rw [hsize]; exact Nat.le_refl _))
            (fun y hy => by
              obtain ⟨b, _, rfl⟩ := List.mem_map.1 hy
              exact ⟨rfl, fun a ha => by simp [AV.cells] at ha; subst ha; rfl⟩)
            (by
              rw [flat_bytes]
              have hp : PL c (s.map fun b : UInt8 => AV.int .u8 b.toNat) (s.map fun b : UInt8 => Value.int .u8 (b.toNat : Int)) := by
                refine ⟨by simp, fun i a v h1 h2 => ?_⟩
                rw [List.getElem?_map] at h1 h2
                cases hb : s[i]? with
                | none => rw [hb] at h1; cases h1
                | some b => rw [hb] at h1 h2; cases h1; cases h2; exact .int _ _
              exact hp.content _)
            (grownCap c.w s.length 0 e) (by simpa using hgl) (by rw [hsize]; omega)
          refine ⟨.slice (some ⟨c.w.heap.size, 0, none⟩) s.length (grownCap c.w s.length 0 e), c1, ?_, k2, k3, k4, by simpa using k5⟩
          rw [k1]
          have hfp := freeze_push c.w.drew ((s.map fun b : UInt8 => Value.int .u8 (b.toNat : Int)).toArray ++ Array.replicate (grownCap c.w s.length 0 e - s.length) (Value.int .u8 0)) e
          rw [hsize] at hfp
          have harr : Array.map (fun b : UInt8 => Value.int .u8 (b.toNat : Int)) s.toArray = (s.map fun b : UInt8 => Value.int .u8 (b.toNat : Int)).toArray := by simp
          have hsh : (({ c.w.drew with heap := c.w.drew.heap.push (.cells ((s.map fun b : UInt8 => Value.int .u8 (b.toNat : Int)).toArray ++ Array.replicate (grownCap c.w s.length 0 e - s.length) (Value.int .u8 0)) e (0, 0)) } : World).shape? c.w.heap.size) = some (e, grownCap c.w s.length 0 e) := by
            have h9 : (c.w.drew.heap.push (.cells ((s.map fun b : UInt8 => Value.int .u8 (b.toNat : Int)).toArray ++ Array.replicate (grownCap c.w s.length 0 e - s.length) (Value.int .u8 0)) e (0, 0)))[c.w.heap.size]? = some (.cells ((s.map fun b : UInt8 => Value.int .u8 (b.toNat : Int)).toArray ++ Array.replicate (grownCap c.w s.length 0 e - s.length) (Value.int .u8 0)) e (0, 0)) := Array.getElem?_push_size
            simp only [World.shape?, h9, hsize]
          have hconv : (convert src dst (.string ⟨s.toArray⟩)).run P c.w = (Conv.stringToBytes e ⟨s.toArray⟩).run P c.w := by
            simp [convert, run_underlying hsd, run_underlying hd, run_underlying he]
          rw [hconv]
          have hch : (choose (.appendCap s.length 0 e)).run P c.w = .ok (grownCap c.w s.length 0 e) c.w.drew := by
            simp [Question.forced, grownCap]
          simp only [Conv.stringToBytes, hlen, Sem.run_bind, hch, Result.andThen_ok, Go.newRow, run_newObj, Sem.run_pure, markStringish, run_shape]
          rw [harr]
          rw [show (c.w.drew.heap.size) = c.w.heap.size from rfl, hsh]
          simp only [run_freeze, Result.andThen_ok]
          exact congrArg (Result.ok _) hfp
        · cases hr
      · cases hr
    · cases hr
  · rename_i hni hns
    split at hr
    · rename_i e hs
      split at hr
      · rename_i hd
        split at hr
        · rename_i he
          split at hr
          · rename_i es hes
            split at hr
            · rename_i l hl
              cases hr
              obtain ⟨ad, n, cap, rfl⟩ : ∃ ad n cap, val = .slice ad n cap := by
                cases x with
                | slc => have := hv.slc_inv; cases this; exact ⟨_, _, _, rfl⟩
                | sref b v0 off len =>
                  simp only [elemsOf] at hes
                  unfold rowAt at hes
                  split at hes
                  · rename_i y hy
                    split at hes
                    · rename_i hk
                      obtain ⟨h1, h2, h3⟩ := ldBlk_some hy
                      obtain ⟨x, hx1, hx2, hx3⟩ := hv.sref_inv
                      have : y = x := Option.some.inj (h1.symm.trans hx1)
                      subst this
                      obtain ⟨cap, cells0, tt, fr, rfl, _⟩ := hx3 h2.symm hk.1
                      exact ⟨_, _, _, rfl⟩
                    · cases hes
                  · cases hes
                | str s => exact absurd rfl (hns s)
                | _ => simp [elemsOf] at hes
              refine ⟨_, c, ?_, rfl, h, Le.refl _, .pure (.str l)⟩
              rw [run_convert_bytes_string c.w src dst e ad n cap hs he hd]
              exact bytes_run h hv hns hes hl
            · cases hr
          · cases hr
        · cases hr
      · rename_i e' hd
        split at hr
        · rename_i b v0 off len
          split at hr
          · rename_i y hy
            split at hr
            · rename_i he'
              split at hr
              · rename_i hk
                cases hr
                obtain ⟨h1, h2, h3⟩ := ldBlk_some hy
                obtain ⟨x, hx1, hx2, hx3⟩ := hv.sref_inv
                have : y = x := Option.some.inj (h1.symm.trans hx1)
                subst this
                obtain ⟨cap, cells0, tt, fr, rfl, e2, e3, e4, e5⟩ := hx3 h2.symm hk.2.1
                obtain ⟨cells, t, lo, hi, g1, g2, g3, g4⟩ := (h.blk b y h1 h3).here
                have hsd := hk.1
                subst hsd
                have hee : e' = e := by rw [hs] at hd; cases hd; rfl
                subst hee
                have hsh : c.w.shape? (c.R b) = some (t, cells.size) := by simp [World.shape?, g1]
                have hfz := hk.2.2
                have hfrz : (c.w.freeze { block := c.R b, off := cells.size } 1).heap = c.w.heap.setIfInBounds (c.R b) (.cells cells t (if lo == hi then (cells.size, cells.size + 1) else (min lo cells.size, max hi (cells.size + 1)))) := by
                  apply Array.ext_getElem?
                  intro k
                  by_cases hkk : k = c.R b
                  · subst hkk
                    rw [Array.getElem?_setIfInBounds_self_of_lt (Array.getElem?_eq_some_iff.1 g1).1]
                    unfold World.freeze
                    simp only [Nat.succ_ne_zero, if_false]
                    rw [Array.getElem?_modify, if_pos rfl, g1]
                    rfl
                  · rw [freeze_other c.w _ _ k hkk, Array.getElem?_setIfInBounds_ne (fun h => hkk h.symm)]
                obtain ⟨w1, w2⟩ := h.setW b y y h1 h3 hfz rfl rfl rfl hfz (fun _ => rfl) cells cells t t (lo, hi)
                  (if lo == hi then (cells.size, cells.size + 1) else (min lo cells.size, max hi (cells.size + 1))).1 (if lo == hi then (cells.size, cells.size + 1) else (min lo cells.size, max hi (cells.size + 1))).2 g1 rfl
                  (by
                    right
                    split
                    · exact Nat.le_refl _
                    · rename_i q
                      rcases g2 with q2 | q2
                      · exact absurd (by simp [q2]) q
                      · simp only; omega)
                  (c.w.freeze { block := c.R b, off := cells.size } 1) hfrz (by unfold World.freeze; rfl) (by unfold World.freeze; rfl) g3 g4
                refine ⟨.slice (some ⟨c.R b, off * y.sz, none⟩) len cap, _, ?_, ?_, w1, w2, ?_⟩
                · have hm : (markStringish ⟨c.R b, off * y.sz, none⟩).run P c.w = .ok () (c.w.freeze { block := c.R b, off := cells.size } 1) := by
                    simp [markStringish, hsh]
                  simp [convert, run_underlying hs, run_underlying he', hm]
                · rfl
                · exact hv.mono w2
              · cases hr
            · cases hr
          · cases hr
        · cases hr
      · cases hr
    · cases hr

end
end Go.Ab
