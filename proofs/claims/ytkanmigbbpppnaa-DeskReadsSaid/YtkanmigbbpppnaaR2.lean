/- A part of the proof: contracts of functions. -/
import Derived.Test.YtkanmigbbpppnaaD
import Derived.Test.YtkanmigbbpppnaaAbAny

set_option linter.unusedVariables false
set_option linter.unusedSimpArgs false
set_option maxRecDepth 100000
namespace Go.Proofs.Ytkanmigbbpppnaa
open Go Go.Ab
abbrev Row3 : Type := Int × Int × Int
abbrev Row3_fs : List Lf := [.fi .u8, .fi .u8, .fi .u8]
noncomputable def Rd1 : PKs := PK0.add 17 daskS.pk
theorem Rd1_ok : PKsOk Try.prog Rd1 := PKsOk.anyF PK0_ok 17 daskS daskO
noncomputable def Rd2 : PKs := Rd1.add 22 hrefS.pk
theorem Rd2_ok : PKsOk Try.prog Rd2 := PKsOk.anyF Rd1_ok 22 hrefS hrefO
noncomputable def dr_h (lx : Bool) (l : List Row3) : Option (Ex × St) := headK Try.prog cfg Rd2 LP0 7 0 [.slc lx (l.map (mkV true Row3_fs))] []
noncomputable def dr_h_r (lx : Bool) (l : List Row3) : Option (Ex × St) :=
  oK (begunS.dec [] []) fun (d0 : PUnit) => bK (decide (12 < (↑(List.map (mkV true [Lf.fi IntKind.u8, Lf.fi IntKind.u8, Lf.fi IntKind.u8]) l).length : Int))) (some (Ex.ret, { fr := [(2, AV.bool true), (16, AV.bool true), (15, AV.int IntKind.i64 (↑(List.map (mkV true [Lf.fi IntKind.u8, Lf.fi IntKind.u8, Lf.fi IntKind.u8]) l).length : Int)), (14, AV.slc lx (List.map (mkV true [Lf.fi IntKind.u8, Lf.fi IntKind.u8, Lf.fi IntKind.u8]) l)), (13, AV.bool false), (12, AV.bool true), (2, AV.bool false), (0, AV.slc lx (List.map (mkV true [Lf.fi IntKind.u8, Lf.fi IntKind.u8, Lf.fi IntKind.u8]) l))], bs := [], df := [] })) (some (Ex.exit 999999, { fr := [(0, AV.slc lx (List.map (mkV true [Lf.fi IntKind.u8, Lf.fi IntKind.u8, Lf.fi IntKind.u8]) l)), (3, AV.ptr 48 0 0 0), (4, AV.int IntKind.i64 0), (5, AV.int IntKind.i64 0)], bs := [(48, { v := 0, k := BK.box, fz := false, sz := 0, es := [AV.slc true [], AV.slc true []] })], df := [] }))
theorem dr_h_w (lx : Bool) (l : List Row3) : dr_h lx l = dr_h_r lx l := by kernel_rfl

def drh (lx : Bool) (l : List Row3) (d : Desk_T) (now i : Int) : St := { fr := [(0, .slc lx (l.map (mkV true Row3_fs))), (3, .ptr 48 0 0 0), (4, .int .i64 now), (5, .int .i64 i)], bs := [(48, boxB (Tu.mk Desk_tfs d))], df := [] }
noncomputable def dr_s (lx : Bool) (l : List Row3) (d : Desk_T) (now i : Int) : Option (St ⊕ (Ex × St)) := stepK Try.prog cfg Rd2 LP0 7 0 (drh lx l d now i)
noncomputable def dr_s_r (lx : Bool) (l : List Row3) (d : Desk_T) (now : Int) (i : Int) : Option (St ⊕ Ex × St) :=
  bK (decide (i < (↑(List.map (mkV true [Lf.fi IntKind.u8, Lf.fi IntKind.u8, Lf.fi IntKind.u8]) l).length : Int)))
  (oK (elemAt true [Lf.fi IntKind.u8, Lf.fi IntKind.u8, Lf.fi IntKind.u8] (List.map (mkV true [Lf.fi IntKind.u8, Lf.fi IntKind.u8, Lf.fi IntKind.u8]) l) i) fun (d0 : Int × Int × Int) =>
    oK (elemAt true [Lf.fi IntKind.u8, Lf.fi IntKind.u8, Lf.fi IntKind.u8] (List.map (mkV true [Lf.fi IntKind.u8, Lf.fi IntKind.u8, Lf.fi IntKind.u8]) l) i) fun (d1 : Int × Int × Int) =>
      oK (elemAt true [Lf.fi IntKind.u8, Lf.fi IntKind.u8, Lf.fi IntKind.u8] (List.map (mkV true [Lf.fi IntKind.u8, Lf.fi IntKind.u8, Lf.fi IntKind.u8]) l) i) fun (d2 : Int × Int × Int) =>
        oK (daskS.dec [AV.agg [AV.slc d.fst.fst (List.map (mkV true Wait_tfs) d.fst.snd), AV.slc d.snd.fst (List.map (mkV true Wait_tfs) d.snd.snd)], AV.int IntKind.i64 (IntKind.i64.wrap (now + IntKind.i64.wrap (Int.tmod d0.snd.snd 20))), AV.agg [AV.int IntKind.i64 (IntKind.i64.wrap (1 + IntKind.i64.wrap (Int.tmod d1.fst 3))), AV.int IntKind.i64 (IntKind.i64.wrap (1 + i)), AV.int IntKind.i64 (IntKind.i64.wrap (1 + IntKind.i64.wrap (Int.tmod d2.snd.fst 3))), AV.int IntKind.i64 1]] []) fun (d3 : (Bool × List (Int × Int × Int × Int)) × (Bool × List (Int × Int × Int × Int)) × Int × Int × Int × Int × Int) =>
          bK (!(askQ d3.fst.snd d3.snd.fst.snd d3.snd.snd.fst d3.snd.snd.snd).snd.snd.fst) (some (Sum.inr (Ex.ret, { fr := [(2, AV.bool false)], bs := [], df := [] })))
            (bK (!decide ((↑(List.map (mkV false I1_tfs) (askQ d3.fst.snd d3.snd.fst.snd d3.snd.snd.fst d3.snd.snd.snd).snd.snd.snd.fst.snd).length : Int) = 0)) (some (Sum.inr (Ex.ret, { fr := [(2, AV.bool false)], bs := [], df := [] })))
              (bK (!decide ((askQ d3.fst.snd d3.snd.fst.snd d3.snd.snd.fst d3.snd.snd.snd).snd.snd.snd.snd = 0)) (some (Sum.inr (Ex.ret, { fr := [(2, AV.bool false)], bs := [], df := [] })))
                (bK (!decide ((↑(List.map (mkV true Wait_tfs) (askQ d3.fst.snd d3.snd.fst.snd d3.snd.snd.fst d3.snd.snd.snd).snd.fst.snd).length : Int) = 0)) (some (Sum.inr (Ex.ret, { fr := [(2, AV.bool false)], bs := [], df := [] })))
                  (oK (hrefS.dec [AV.slc (askQ d3.fst.snd d3.snd.fst.snd d3.snd.snd.fst d3.snd.snd.snd).fst.fst (List.map (mkV true Wait_tfs) (askQ d3.fst.snd d3.snd.fst.snd d3.snd.snd.fst d3.snd.snd.snd).fst.snd), AV.int IntKind.i64 (IntKind.i64.wrap (IntKind.i64.wrap (IntKind.i64.wrap (now + IntKind.i64.wrap (Int.tmod d0.snd.snd 20)) + 60) - 1)), AV.int IntKind.i64 (IntKind.i64.wrap (1 + IntKind.i64.wrap (Int.tmod d1.fst 3))), AV.int IntKind.i64 (IntKind.i64.wrap (1 + IntKind.i64.wrap (Int.tmod d2.snd.fst 3)))] []) fun (d4 : (Bool × List (Int × Int × Int × Int)) × Int × Int × Int) =>
                    bK (!decide (rhQ d4.fst.snd d4.snd.fst d4.snd.snd.fst d4.snd.snd.snd = 1)) (some (Sum.inr (Ex.ret, { fr := [(2, AV.bool false)], bs := [], df := [] })))
                      (oK (hrefS.dec [AV.slc (askQ d3.fst.snd d3.snd.fst.snd d3.snd.snd.fst d3.snd.snd.snd).fst.fst (List.map (mkV true Wait_tfs) (askQ d3.fst.snd d3.snd.fst.snd d3.snd.snd.fst d3.snd.snd.snd).fst.snd), AV.int IntKind.i64 (IntKind.i64.wrap (IntKind.i64.wrap (now + IntKind.i64.wrap (Int.tmod d0.snd.snd 20)) + 60)), AV.int IntKind.i64 (IntKind.i64.wrap (1 + IntKind.i64.wrap (Int.tmod d1.fst 3))), AV.int IntKind.i64 (IntKind.i64.wrap (1 + IntKind.i64.wrap (Int.tmod d2.snd.fst 3)))] []) fun (d5 : (Bool × List (Int × Int × Int × Int)) × Int × Int × Int) => bK (!decide (rhQ d5.fst.snd d5.snd.fst d5.snd.snd.fst d5.snd.snd.snd = 0)) (some (Sum.inr (Ex.ret, { fr := [(2, AV.bool false)], bs := [], df := [] }))) (some (Sum.inl { fr := [(0, AV.slc lx (List.map (mkV true [Lf.fi IntKind.u8, Lf.fi IntKind.u8, Lf.fi IntKind.u8]) l)), (3, AV.ptr 48 0 0 0), (4, AV.int IntKind.i64 (IntKind.i64.wrap (now + IntKind.i64.wrap (Int.tmod d0.snd.snd 20)))), (5, AV.int IntKind.i64 (IntKind.i64.wrap (i + 1)))], bs := [(48, { v := 0, k := BK.box, fz := false, sz := 0, es := [AV.slc (askQ d3.fst.snd d3.snd.fst.snd d3.snd.snd.fst d3.snd.snd.snd).fst.fst (List.map (mkV true Wait_tfs) (askQ d3.fst.snd d3.snd.fst.snd d3.snd.snd.fst d3.snd.snd.snd).fst.snd), AV.slc (askQ d3.fst.snd d3.snd.fst.snd d3.snd.snd.fst d3.snd.snd.snd).snd.fst.fst (List.map (mkV true Wait_tfs) (askQ d3.fst.snd d3.snd.fst.snd d3.snd.snd.fst d3.snd.snd.snd).snd.fst.snd)] })], df := [] }))))))))
  (some (Sum.inr (Ex.exit 0, { fr := [], bs := [], df := [] })))
theorem dr_s_w (lx : Bool) (l : List Row3) (d : Desk_T) (now : Int) (i : Int) : dr_s lx l d now i = dr_s_r lx l d now i := by kernel_rfl

theorem wf8 {l : List Int} (h : ∀ d ∈ l, Tu.wf [.fi .u8] d) : ∀ v ∈ l, 0 ≤ v ∧ v < 256 := fun v hv => by
  have : (0 : Int) ≤ v ∧ v ≤ 255 := h v hv
  omega
theorem tm_lt (c : Int) (n : Int) (h : 0 ≤ c ∧ c ≤ 255) (hn : 1 ≤ n ∧ n ≤ 255) : IntKind.i64.wrap (1 + IntKind.i64.wrap (c.tmod n)) = 1 + c.tmod n ∧ 0 ≤ c.tmod n ∧ c.tmod n < n := by
  have h1 := Int.tmod_nonneg n h.1
  have h2 := Int.tmod_lt_of_pos c (show 0 < n by omega)
  rw [w64 (n := c.tmod n) (by omega) (by omega), w64 (by omega) (by omega)]
  exact ⟨rfl, h1, h2⟩
structure RInv (now : Int) (L : List Lease_T) : Prop where
  inv : LInv L
  reads : ∀ w ∈ L, w.2.2.1 = 1
  till : ∀ w ∈ L, w.2.2.2 ≤ now + 60
/-- One that asks to read where all read is let have it. -/
theorem ask_reads {now now' : Int} {L : List Lease_T} (h : RInv now L) (hn : now ≤ now') {c f q : Int} (hc : 1 ≤ c ∧ c ≤ 3) (hf : 1 ≤ f ∧ f ≤ 3) (h0 : 0 ≤ now) : ∃ y, askQ L [] now' (c, q, f, 1) = ((false, y), (true, []), true, (true, []), 0) ∧ RInv now' y ∧ y.length ≤ L.length + 1 ∧ rhQ y (now' + 59) c f = 1 ∧ rhQ y (now' + 60) c f = 0 := by
  have hP : LInv (pruneQ L now') := h.inv.filter _
  have hsub : ∀ w ∈ pruneQ L now', w ∈ L := fun w hw => (List.mem_filter.1 hw).1
  have ht : okE (c, f, 1, now' + 60) = true := okE_iff.2 ⟨hc, ⟨hf.1, by show f ≤ 6; omega⟩, ⟨by show (1 : Int) ≤ 1; omega, by show (1 : Int) ≤ 2; omega⟩, by show 0 ≤ now' + 60; omega⟩
  have hcs : csF (pruneQ L now') now' c f 1 = [] := by
    show ((pruneQ L now').filter (csK (pruneQ L now') now' c f 1)).map csg = []
    rw [List.map_eq_nil_iff, List.filter_eq_nil_iff]
    intro w hw hk
    unfold csK at hk
    simp only [Bool.and_eq_true, Bool.not_eq_true', decide_eq_true_eq, decide_eq_false_iff_not, Bool.or_eq_true] at hk
    have e := (hold_mem hP.srt hw (c := w.1) (f := f) ⟨rfl, hk.1.1⟩ now').2.2
    have hm := h.reads w (hsub w hw)
    rw [e] at hk
    unfold valF at hk
    split at hk
    · exact hk.2.1 rfl
    · rcases hk.2.2 with h2 | h2
      · exact absurd h2 (by decide)
      · omega
  have hmay : mayQd (pruneQ L now') [] now' (c, q, f, 1) = true := by
    show (decide (csF (pruneQ L now') now' c f 1 = []) && !aheadNw c f []) = true
    rw [decide_eq_true hcs]; rfl
  have e0 : askQ L [] now' (c, q, f, 1) = ((false, granQ (pruneQ L now') (c, f, 1, now' + 60)), (true, []), true, (true, []), 0) := by
    show (if mayQd (pruneQ L now') [] now' (c, q, f, 1) = true then _ else _) = _
    rw [if_pos hmay]
    rfl
  obtain ⟨a, b⟩ := gran_mem hP.srt (c, f, 1, now' + 60)
  have hu : upQ (pruneQ L now') (c, f, 1, now' + 60) = (c, f, 1, now' + 60) := by
    by_cases hw : ∃ w ∈ pruneQ L now', sameK w (c, f, 1, now' + 60)
    · obtain ⟨w, hw, hs⟩ := hw
      have e : upQ (pruneQ L now') (c, f, 1, now' + 60) = (c, f, maxI 1 w.2.2.1, maxI (now' + 60) w.2.2.2) := upN_mem hP.srt hw hs
      have h1 := h.reads w (hsub w hw)
      have h2 := h.till w (hsub w hw)
      rw [e, h1]
      have e1 : maxI 1 1 = 1 := by decide
      have e2 : maxI (now' + 60) w.2.2.2 = now' + 60 := by unfold maxI; split <;> omega
      rw [e1, e2]
    · exact upN_none fun w hm hs => hw ⟨w, hm, hs⟩
  refine ⟨_, e0, ⟨gran_inv hP ht, fun w hw => ?_, fun w hw => ?_⟩, ?_, ?_, ?_⟩
  · rcases (b w).1 hw with rfl | ⟨hw, _⟩
    · rw [hu]
    · exact h.reads w (hsub w hw)
  · rcases (b w).1 hw with rfl | ⟨hw, _⟩
    · rw [hu]; exact Int.le_refl _
    · have := h.till w (hsub w hw); omega
  · have := (gran_len hP ht).2
    have := List.length_filter_le (fun w : Lease_T => !decide (w.2.2.2 ≤ now')) L
    have e : (pruneQ L now').length = (L.filter fun w : Lease_T => !decide (w.2.2.2 ≤ now')).length := rfl
    omega
  · rw [rh_eq a, hold_gran hP.srt, if_pos ⟨rfl, rfl⟩, hu]
    unfold valF
    rw [if_neg (by show ¬ (now' + 60 ≤ now' + 59); omega)]
  · rw [rh_eq a, hold_gran hP.srt, if_pos ⟨rfl, rfl⟩, hu]
    unfold valF
    rw [if_pos (by show now' + 60 ≤ now' + 60; omega)]
def DRQ (lx : Bool) (l : List Row3) (L : List Lease_T) (now : Int) (i : Nat) (z : Option (St ⊕ (Ex × St))) : Prop := ∃ y now', z = some (.inl (drh lx l ((false, y), (true, [])) now' ((i + 1 : Nat) : Int))) ∧ RInv now' y ∧ y.length ≤ L.length + 1 ∧ now ≤ now' ∧ now' ≤ now + 20
theorem dr_e (lx : Bool) (l : List Row3) (hl : ∀ r ∈ l, Tu.wf Row3_fs r) (x : Bool) (L : List Lease_T) (now : Int) (i : Nat) (hi : i < l.length) (h : RInv now L) (hn : 0 ≤ now ∧ now ≤ 10000) (hL : L.length ≤ 1000) (hi2 : i ≤ 1000) : DRQ lx l L now i (dr_s lx l ((x, L), (true, [])) now i) := by
  rw [dr_s_w]
  unfold dr_s_r
  have e2 : l.getD (i : Int).toNat (0, 0, 0) = l[i] := by rw [Int.toNat_natCast, getD_at hi]
  have at_ : ∀ {k : Row3 → Option (St ⊕ (Ex × St))}, DRQ lx l L now i (k l[i]) → DRQ lx l L now i (oK (elemAt true Row3_fs (l.map (mkV true Row3_fs)) i) k) := fun hk => oK_atq (fs := Row3_fs) (0, 0, 0) (by omega) (by simpa using hi) (by rw [e2]; exact hk)
  have hw := hl _ (List.getElem_mem hi)
  have ei : IntKind.i64.wrap ((i : Int) + 1) = ((i + 1 : Nat) : Int) := by rw [w64 (by omega) (by omega)]; omega
  refine bK_tq (Q := DRQ lx l L now i) (by simp; omega) ?_
  refine at_ (at_ (at_ ?_))
  generalize l[i] = r at hw at_
  have h1 : (0 : Int) ≤ r.1 ∧ r.1 ≤ 255 := hw.1
  have h2 : (0 : Int) ≤ r.2.1 ∧ r.2.1 ≤ 255 := hw.2.1
  have h3 : (0 : Int) ≤ r.2.2 ∧ r.2.2 ≤ 255 := hw.2.2
  obtain ⟨c1, c2, c3⟩ := tm_lt r.1 3 h1 (by omega)
  obtain ⟨f1, f2, f3⟩ := tm_lt r.2.1 3 h2 (by omega)
  have t1 := Int.tmod_nonneg 20 h3.1
  have t2 := Int.tmod_lt_of_pos r.2.2 (show (0 : Int) < 20 by omega)
  have ed : IntKind.i64.wrap (r.2.2.tmod 20) = r.2.2.tmod 20 := w64 (by omega) (by omega)
  simp only
  rw [c1, f1, ed]
  generalize r.2.2.tmod 20 = e at t1 t2
  have en : IntKind.i64.wrap (now + e) = now + e := w64 (by omega) (by omega)
  rw [en, w64 (n := now + e + 60) (by omega) (by omega), w64 (n := now + e + 60 - 1) (by omega) (by omega), ei]
  generalize IntKind.i64.wrap (1 + (i : Int)) = q
  obtain ⟨y, hy, ha, hlen, hr1, hr2⟩ := ask_reads (q := q) h (show now ≤ now + e by omega) (c := 1 + r.1.tmod 3) (f := 1 + r.2.1.tmod 3) (by omega) (by omega) hn.1
  refine oK_fsq (Q := DRQ lx l L now i) daskS ((x, L), (true, []), now + e, (1 + r.1.tmod 3, q, 1 + r.2.1.tmod 3, 1)) ⟨⟨by show L.length ≤ 100000; omega, by show 0 ≤ 100000; decide⟩, by show 0 ≤ now + e; omega, by show now + e ≤ 1000000; omega⟩ ?_
  dsimp only
  rw [hy]
  refine bK_fq (Q := DRQ lx l L now i) rfl (bK_fq (Q := DRQ lx l L now i) rfl (bK_fq (Q := DRQ lx l L now i) rfl (bK_fq (Q := DRQ lx l L now i) rfl ?_)))
  refine oK_fsq (Q := DRQ lx l L now i) hrefS ((false, y), now + e + 60 - 1, 1 + r.1.tmod 3, 1 + r.2.1.tmod 3) (by show y.length ≤ 100000; omega) ?_
  dsimp only
  rw [show now + e + 60 - 1 = now + e + 59 by omega, hr1]
  refine bK_fq (Q := DRQ lx l L now i) rfl ?_
  refine oK_fsq (Q := DRQ lx l L now i) hrefS ((false, y), now + e + 60, 1 + r.1.tmod 3, 1 + r.2.1.tmod 3) (by show y.length ≤ 100000; omega) ?_
  dsimp only
  rw [hr2]
  refine bK_fq (Q := DRQ lx l L now i) rfl ?_
  exact ⟨y, now + e, rfl, ha, hlen, by omega, by omega⟩
theorem gl7 : (loopsOf 0 (codeOf Try.prog 7)).map (·.1) = [0] := by kernel_rfl
theorem go7 : OneLoops Try.prog 7 := by unfold OneLoops; rw [gl7]; decide
theorem ga70 : At 0 (codeOf Try.prog 7) 0 (.loop (bodyAt Try.prog 7 0)) := at_body go7 (by rw [gl7]; decide)
theorem dr_run (lx : Bool) (l : List Row3) (hl : ∀ r ∈ l, Tu.wf Row3_fs r) (hl2 : l.length ≤ 12) : ∀ (j i : Nat) (x : Bool) (L : List Lease_T) (now : Int), i + j = l.length → RInv now L → 0 ≤ now → now ≤ 20 * i → L.length ≤ i → ∀ (fu : Nat), j < fu → Runs' Try.prog cfg Rd2 7 0 fu (drh lx l ((x, L), (true, [])) now i) (.exit 0, { fr := [], bs := [], df := [] })
  | 0, i, x, L, now, hi, h, h1, h2, h3, fu + 1, hf => by
    refine Runs'.done (lp := LP0) LPok.none ga70 ((dr_s_w lx l _ now i).trans ?_)
    unfold dr_s_r
    exact bK_neg (by simp; omega)
  | j + 1, i, x, L, now, hi, h, h1, h2, h3, fu + 1, hf => by
    obtain ⟨y, now', hs, ha, hlen, n1, n2⟩ := dr_e lx l hl x L now i (by omega) h ⟨h1, by omega⟩ (by omega) (by omega)
    exact Runs'.step (lp := LP0) LPok.none ga70 hs (dr_run lx l hl hl2 j (i + 1) false y now' (by omega) ha (by omega) (by omega) (by omega) fu (by omega))
def drHd (d : Bool × List Row3) : St := drh d.1 d.2 ((true, []), (true, [])) 0 0
theorem drHd_inj (d d' : Bool × List Row3) (h : drHd d = drHd d') : d = d' := by
  obtain ⟨lx, l⟩ := d
  obtain ⟨lx', l'⟩ := d'
  simp only [drHd, drh, St.mk.injEq, List.cons.injEq, Prod.mk.injEq, AV.slc.injEq, and_true, true_and] at h
  rw [h.1, map_inj (fs := Row3_fs) rfl h.2]
/-- Bytes. -/
def rows3Ok (l : List Row3) : Prop := ∀ r ∈ l, Tu.wf Row3_fs r
noncomputable def drL7 : LP := LP.of drHd (fun d => rows3Ok d.2 ∧ d.2.length ≤ 12) fun _ => .leaf (.exit 0, { fr := [], bs := [], df := [] })
noncomputable def drP7 : LPs := LPs.add LP0 7 0 drL7
theorem drP7_ok : LPok Try.prog cfg Rd2 drP7 7 := LPok.addH LPok.none go7 (by
  rintro ⟨lx, l⟩ ⟨h1, h2⟩
  have h2' : l.length ≤ 12 := h2
  exact dr_run lx l h1 h2 l.length 0 true [] 0 (by omega) ⟨LInv.nil, fun _ h => (by cases h), fun _ h => (by cases h)⟩ (by omega) (by omega) (by simp) rounds (by simp only [rounds]; omega))
abbrev deskReads_id : Nat := 7
abbrev deskReads_sh : Shp := [none]
abbrev deskReads_fs : List Lf := [.fl true [.fi .u8, .fi .u8, .fi .u8]]
abbrev deskReads_rsh : Shp := [none]
abbrev deskReads_rfs : List Lf := [.fb]
noncomputable def deskReads_r (l_x : Bool) (l : List (Int × Int × Int)) : Option Ret :=
  oK (begunS.dec [] []) fun (d0 : PUnit) => bK (decide (12 < (↑(List.map (mkV true [Lf.fi IntKind.u8, Lf.fi IntKind.u8, Lf.fi IntKind.u8]) l).length : Int))) (some { pan := false, res := AV.bool true, out := [], new := [] }) (oK (drL7.dec { fr := [(0, AV.slc l_x (List.map (mkV true [Lf.fi IntKind.u8, Lf.fi IntKind.u8, Lf.fi IntKind.u8]) l)), (3, AV.ptr 48 0 0 0), (4, AV.int IntKind.i64 0), (5, AV.int IntKind.i64 0)], bs := [(48, { v := 0, k := BK.box, fz := false, sz := 0, es := [AV.slc true [], AV.slc true []] })], df := [] }) fun (d1 : Bool × List (Int × Int × Int)) => some { pan := false, res := AV.bool true, out := [], new := [] })
theorem deskReads_w (l_x : Bool) (l : List (Int × Int × Int)) : unitQ Try.prog cfg Rd2 drP7 true 7 (groupA deskReads_sh (Tu.mk deskReads_fs (l_x, l))) [] = deskReads_r l_x l := by kernel_rfl

theorem deskReads_yes (l_x : Bool) (l : List (Int × Int × Int)) (h : Tu.wf deskReads_fs (l_x, l)) : Yes (deskReads_r l_x l) := by
  have hl : ∀ r ∈ l, Tu.wf Row3_fs r := h.2
  unfold deskReads_r
  refine oK_fsq (Q := Yes) begunS () trivial ?_
  refine bK_iq (Q := Yes) (fun _ => yes_leaf) (fun c1 => ?_)
  rw [List.length_map] at c1
  exact oK_lpq (Q := Yes) drHd_inj (l_x, l) ⟨hl, by show l.length ≤ 12; omega⟩ yes_leaf

end Go.Proofs.Ytkanmigbbpppnaa
