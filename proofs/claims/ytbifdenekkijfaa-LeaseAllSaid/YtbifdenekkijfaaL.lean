/- A part of the proof: contracts of functions. -/
import Derived.Test.YtbifdenekkijfaaO
import Derived.Test.YtbifdenekkijfaaAbAny

set_option linter.unusedVariables false
set_option linter.unusedSimpArgs false
set_option maxRecDepth 100000
namespace Go.Proofs.Ytbifdenekkijfaa
open Go Go.Ab
theorem AInv.sub {now now' : Int} {x y : List Lease_T} (h : AInv now x) (hi : LInv y) (hs : ∀ w ∈ y, w ∈ x ∧ now' < w.2.2.2) : AInv now' y :=
  ⟨hi, fun w hw => (hs w hw).2, fun w hw v hv => h.alone w (hs w hw).1 v (hs v hv).1⟩
theorem csF_nil {x : List Lease_T} {now c f m : Int} (h : csF x now c f m = []) : ∀ w ∈ x, w.2.1 = f → w.1 ≠ c → holdQ x now w.1 f ≠ 0 → m ≠ 2 ∧ holdQ x now w.1 f ≠ 2 := by
  intro w hw hf hc hh
  have e : (x.filter (csK x now c f m)).map csg = [] := h
  rw [List.map_eq_nil_iff, List.filter_eq_nil_iff] at e
  have := e w hw
  unfold csK at this
  simp only [Bool.and_eq_true, Bool.not_eq_true', decide_eq_true_eq, decide_eq_false_iff_not, Bool.or_eq_true, not_and, not_or] at this
  exact this ⟨hf, hc⟩ hh
theorem AInv.grant {now : Int} {x : List Lease_T} (h : AInv now x) {c f m u : Int} (ht : okE (c, f, m, u) = true) (hu : now < u) (hc : csF x now c f m = []) : AInv now (granQ x (c, f, m, u)) ∧ m ≤ holdQ (granQ x (c, f, m, u)) now c f := by
  obtain ⟨a, b⟩ := gran_mem h.inv.srt (c, f, m, u)
  have hno : ∀ v ∈ x, v.2.1 = f → v.1 ≠ c → m ≠ 2 ∧ v.2.2.1 ≠ 2 := fun v hv h1 h2 => by
    have e := (hold_mem h.inv.srt hv (c := v.1) (f := f) ⟨rfl, h1⟩ now).2.2
    have hl := h.live v hv
    have ho := okE_iff.1 (h.inv.ok v hv)
    have ev : valF now v = v.2.2.1 := if_neg (by omega)
    have := csF_nil hc v hv h1 h2 (by rw [e, ev]; omega)
    rw [e, ev] at this
    exact this
  have hk : (upQ x (c, f, m, u)).1 = c ∧ (upQ x (c, f, m, u)).2.1 = f := upN_key x _
  have hup : (upQ x (c, f, m, u)).2.2.2 ≥ u ∧ (upQ x (c, f, m, u)).2.2.1 ≥ m ∧ ((upQ x (c, f, m, u)).2.2.1 = 2 → ∀ v ∈ x, v.2.1 = f → v.1 = c) := by
    by_cases hw : ∃ w ∈ x, sameK w (c, f, m, u)
    · obtain ⟨w, hw, hs⟩ := hw
      have e : upQ x (c, f, m, u) = (c, f, maxI m w.2.2.1, maxI u w.2.2.2) := upN_mem h.inv.srt hw hs
      rw [e]
      have m1 := maxI_le m w.2.2.1
      have m2 := maxI_le u w.2.2.2
      refine ⟨m2.1, m1.1, fun h2 v hv hf => Classical.byContradiction fun hne => ?_⟩
      have q := hno v hv hf hne
      have : w.2.2.1 = 2 := by
        have h2' : maxI m w.2.2.1 = 2 := h2
        unfold maxI at h2'
        split at h2'
        · exact h2'
        · exact absurd h2' q.1
      have hs1 : w.1 = c := hs.1
      have hs2 : w.2.1 = f := hs.2
      have := h.alone w hw v hv (by omega) this
      omega
    · have e : upQ x (c, f, m, u) = (c, f, m, u) := upN_none fun w hm hs => hw ⟨w, hm, hs⟩
      rw [e]
      exact ⟨Int.le_refl _, Int.le_refl _, fun h2 v hv hf => Classical.byContradiction fun hne => (hno v hv hf hne).1 h2⟩
  obtain ⟨u1, u2, u3⟩ := hup
  refine ⟨⟨gran_inv h.inv ht, fun w hw => ?_, fun w hw v hv hf h2 => ?_⟩, ?_⟩
  · rcases (b w).1 hw with rfl | ⟨hw, _⟩
    · omega
    · exact h.live w hw
  · rcases (b w).1 hw with rfl | ⟨hw, nw⟩
    · rcases (b v).1 hv with rfl | ⟨hv, nv⟩
      · rfl
      · rw [hk.1]; exact (u3 h2 v hv (by rw [← hf]; exact hk.2)).symm
    · rcases (b v).1 hv with rfl | ⟨hv, nv⟩
      · rw [hk.2] at hf
        rw [hk.1]
        exact Classical.byContradiction fun hne => (hno w hw hf hne).2 h2
      · exact h.alone w hw v hv hf h2
  · rw [hold_gran h.inv.srt, if_pos ⟨rfl, rfl⟩]
    unfold valF
    rw [if_neg (by omega)]
    exact u2
def AQ (lx : Bool) (l : List Row4) (now : Int) (i : Nat) (x : List Lease_T) (z : Option (St ⊕ (Ex × St))) : Prop := ∃ xx' x' now', z = some (.inl (aoh lx l xx' x' now' ((i + 1 : Nat) : Int))) ∧ AInv now' x' ∧ now ≤ now' ∧ now' ≤ now + 30 ∧ x'.length ≤ x.length + 1
theorem ao_e (lx : Bool) (l : List Row4) (hl : ∀ r ∈ l, Tu.wf Row4_fs r) (xx : Bool) (x : List Lease_T) (now : Int) (i : Nat) (h : AInv now x) (hi : i < l.length) (hn : 0 ≤ now) (hn2 : now ≤ 10000) (hx : x.length ≤ 100) (hi2 : i ≤ 1000) : AQ lx l now i x (ao_s lx l xx x now i) := by
  rw [ao_s_w]
  unfold ao_s_r
  have e2 : l.getD (i : Int).toNat (0, 0, 0, 0) = l[i] := by rw [Int.toNat_natCast, getD_at hi]
  have at_ : ∀ {k : Row4 → Option (St ⊕ (Ex × St))}, AQ lx l now i x (k l[i]) → AQ lx l now i x (oK (elemAt true Row4_fs (l.map (mkV true Row4_fs)) i) k) := fun hk => oK_atq (fs := Row4_fs) (0, 0, 0, 0) (by omega) (by simpa using hi) (by rw [e2]; exact hk)
  have hw := hl _ (List.getElem_mem hi)
  have ei : IntKind.i64.wrap ((i : Int) + 1) = ((i + 1 : Nat) : Int) := by rw [w64 (by omega) (by omega)]; omega
  refine bK_tq (Q := AQ lx l now i x) (by simp; omega) ?_
  refine at_ (at_ (at_ (at_ ?_)))
  generalize l[i] = r at hw at_
  have h1 : (0 : Int) ≤ r.2.1 ∧ r.2.1 ≤ 255 := hw.2.1
  have h2 : (0 : Int) ≤ r.2.2.1 ∧ r.2.2.1 ≤ 255 := hw.2.2.1
  have h3 : (0 : Int) ≤ r.2.2.2 ∧ r.2.2.2 ≤ 255 := hw.2.2.2
  obtain ⟨c1, c2, c3⟩ := tm_lt r.2.1 3 h1 (by omega)
  obtain ⟨f1, f2, f3⟩ := tm_lt r.2.2.1 2 h2 (by omega)
  obtain ⟨m1, m2, m3⟩ := tm_lt r.2.2.2 2 h3 (by omega)
  have hxb : x.length ≤ 100000 := by omega
  refine bK_iq (Q := AQ lx l now i x) (fun k0 => ?_) (fun k0 => ?_)
  · refine at_ ?_
    have t1 := Int.tmod_nonneg 30 h3.1
    have t2 := Int.tmod_lt_of_pos r.2.2.2 (show (0 : Int) < 30 by omega)
    rw [w64 (n := r.2.2.2.tmod 30) (by omega) (by omega), w64 (n := now + r.2.2.2.tmod 30) (by omega) (by omega)]
    generalize r.2.2.2.tmod 30 = d at t1 t2
    have hp : (pruneQ x (now + d)).length ≤ x.length := List.length_filter_le _ _
    have ha : AInv (now + d) (pruneQ x (now + d)) := h.sub (h.inv.filter _) fun w hw => by
      have := List.mem_filter.1 hw
      refine ⟨this.1, ?_⟩
      have := this.2
      simp only [Bool.not_eq_true', decide_eq_false_iff_not] at this
      omega
    have hpl : (pruneQ x (now + d)).length ≤ 1000 := by omega
    refine oK_fsq (Q := AQ lx l now i x) pruneS ((xx, x), now + d) hxb ?_
    dsimp only
    refine oK_lpq (Q := AQ lx l now i x) amHd_inj ((lx, l), (x.isEmpty, pruneQ x (now + d)), now + d, (i : Int)) ⟨ha, hpl⟩ ?_
    refine oK_fsq (Q := AQ lx l now i x) mayS (x.isEmpty, pruneQ x (now + d)) (Nat.le_trans hpl (by decide)) ?_
    dsimp only
    refine bK_fq (Q := AQ lx l now i x) (by rw [(ha).inv.may]; rfl) ?_
    rw [ei]
    exact ⟨_, _, _, rfl, ha, by omega, by omega, by omega⟩

  · rw [c1, f1, m1]
    refine bK_iq (Q := AQ lx l now i x) (fun k1 => ?_) (fun k1 => ?_)
    · have hp : (dropQ x (1 + r.2.1.tmod 3) (1 + r.2.2.1.tmod 2)).length ≤ x.length := List.length_filter_le _ _
      have ha : AInv now (dropQ x (1 + r.2.1.tmod 3) (1 + r.2.2.1.tmod 2)) := h.sub (h.inv.filter _) fun w hw => by
        have := (mem_dropQ.1 hw).1
        exact ⟨this, h.live w this⟩
      have hpl : (dropQ x (1 + r.2.1.tmod 3) (1 + r.2.2.1.tmod 2)).length ≤ 1000 := by omega
      refine oK_fsq (Q := AQ lx l now i x) dropS ((xx, x), 1 + r.2.1.tmod 3, 1 + r.2.2.1.tmod 2) hxb ?_
      dsimp only
      refine oK_lpq (Q := AQ lx l now i x) amHd_inj ((lx, l), (x.isEmpty, dropQ x (1 + r.2.1.tmod 3) (1 + r.2.2.1.tmod 2)), now, (i : Int)) ⟨ha, hpl⟩ ?_
      refine oK_fsq (Q := AQ lx l now i x) mayS (x.isEmpty, dropQ x (1 + r.2.1.tmod 3) (1 + r.2.2.1.tmod 2)) (Nat.le_trans hpl (by decide)) ?_
      dsimp only
      refine bK_fq (Q := AQ lx l now i x) (by rw [(ha).inv.may]; rfl) ?_
      rw [ei]
      exact ⟨_, _, _, rfl, ha, by omega, by omega, by omega⟩

    · refine oK_fsq (Q := AQ lx l now i x) clashS ((xx, x), now, 1 + r.2.1.tmod 3, 1 + r.2.2.1.tmod 2, 1 + r.2.2.2.tmod 2) hxb ?_
      dsimp only
      rw [List.length_map]
      refine bK_iq (Q := AQ lx l now i x) (fun k2 => ?_) (fun k2 => ?_)
      · have hcs : csF x now (1 + r.2.1.tmod 3) (1 + r.2.2.1.tmod 2) (1 + r.2.2.2.tmod 2) = [] := List.eq_nil_of_length_eq_zero (by omega)
        rw [w64 (n := now + 20) (by omega) (by omega)]
        have ht : okE (1 + r.2.1.tmod 3, 1 + r.2.2.1.tmod 2, 1 + r.2.2.2.tmod 2, now + 20) = true := okE_iff.2 ⟨⟨by show 1 ≤ 1 + r.2.1.tmod 3; omega, by show 1 + r.2.1.tmod 3 ≤ 3; omega⟩, ⟨by show 1 ≤ 1 + r.2.2.1.tmod 2; omega, by show 1 + r.2.2.1.tmod 2 ≤ 6; omega⟩, ⟨by show 1 ≤ 1 + r.2.2.2.tmod 2; omega, by show 1 + r.2.2.2.tmod 2 ≤ 2; omega⟩, by show 0 ≤ now + 20; omega⟩
        obtain ⟨ha, hm⟩ := h.grant ht (by omega) hcs
        have hp := (gran_len h.inv ht).2
        refine oK_fsq (Q := AQ lx l now i x) granS ((xx, x), (1 + r.2.1.tmod 3, 1 + r.2.2.1.tmod 2, 1 + r.2.2.2.tmod 2, now + 20)) hxb ?_
        dsimp only
        generalize granQ x (1 + r.2.1.tmod 3, 1 + r.2.2.1.tmod 2, 1 + r.2.2.2.tmod 2, now + 20) = y at ha hm hp
        have hpl : y.length ≤ 1000 := by omega
        refine oK_fsq (Q := AQ lx l now i x) holdsS ((false, y), now, 1 + r.2.1.tmod 3, 1 + r.2.2.1.tmod 2) (by show y.length ≤ 100000; omega) ?_
        refine bK_fq (Q := AQ lx l now i x) (decide_eq_false (by show ¬ holdQ y now (1 + r.2.1.tmod 3) (1 + r.2.2.1.tmod 2) < 1 + r.2.2.2.tmod 2; omega)) ?_
        refine oK_lpq (Q := AQ lx l now i x) amHd_inj ((lx, l), (false, y), now, (i : Int)) ⟨ha, hpl⟩ ?_
        refine oK_fsq (Q := AQ lx l now i x) mayS (false, y) (Nat.le_trans hpl (by decide)) ?_
        dsimp only
        refine bK_fq (Q := AQ lx l now i x) (by rw [(ha).inv.may]; rfl) ?_
        rw [ei]
        exact ⟨_, _, _, rfl, ha, by omega, by omega, by omega⟩

      · have hpl : x.length ≤ 1000 := by omega
        refine oK_lpq (Q := AQ lx l now i x) amHd_inj ((lx, l), (xx, x), now, (i : Int)) ⟨h, hpl⟩ ?_
        refine oK_fsq (Q := AQ lx l now i x) mayS (xx, x) (Nat.le_trans hpl (by decide)) ?_
        dsimp only
        refine bK_fq (Q := AQ lx l now i x) (by rw [(h).inv.may]; rfl) ?_
        rw [ei]
        exact ⟨_, _, _, rfl, h, by omega, by omega, by omega⟩

theorem ao_run (lx : Bool) (l : List Row4) (hl : ∀ r ∈ l, Tu.wf Row4_fs r) (hl2 : l.length ≤ 40) : ∀ (j i : Nat) (xx : Bool) (x : List Lease_T) (now : Int), i + j = l.length → AInv now x → 0 ≤ now → now ≤ 30 * i → x.length ≤ i → ∀ (fu : Nat), j < fu → Runs' Try.prog cfg N5 4 0 fu (aoh lx l xx x now i) (.exit 0, { fr := [], bs := [], df := [] })
  | 0, i, xx, x, now, hi, h, h1, h2, h3, fu + 1, hf => by
    refine Runs'.done (lp := amP) amP_ok ga40 ((ao_s_w lx l xx x now i).trans ?_)
    unfold ao_s_r
    exact bK_neg (by simp; omega)
  | j + 1, i, xx, x, now, hi, h, h1, h2, h3, fu + 1, hf => by
    obtain ⟨xx', x', now', hs, ha, n1, n2, hlen⟩ := ao_e lx l hl xx x now i h (by omega) h1 (by omega) (by omega) (by omega)
    exact Runs'.step (lp := amP) amP_ok ga40 hs (ao_run lx l hl hl2 j (i + 1) xx' x' now' (by omega) ha (by omega) (by omega) (by omega) fu (by omega))
def aoHd (d : Bool × List Row4) : St := aoh d.1 d.2 true [] 0 0
theorem aoHd_inj (d d' : Bool × List Row4) (h : aoHd d = aoHd d') : d = d' := by
  obtain ⟨lx, l⟩ := d
  obtain ⟨lx', l'⟩ := d'
  simp only [aoHd, aoh, St.mk.injEq, List.cons.injEq, Prod.mk.injEq, AV.slc.injEq, and_true, true_and] at h
  rw [h.1, map_inj (fs := Row4_fs) rfl h.2]
/-- Bytes. -/
def rowsOk (l : List Row4) : Prop := ∀ r ∈ l, Tu.wf Row4_fs r
noncomputable def aoL : LP := LP.of aoHd (fun d => rowsOk d.2 ∧ d.2.length ≤ 40) fun _ => .leaf (.exit 0, { fr := [], bs := [], df := [] })
noncomputable def aoP : LPs := LPs.add amP 4 0 aoL
theorem aoP_ok : LPok Try.prog cfg N5 aoP 4 := LPok.addH amP_ok go4 (by
  rintro ⟨lx, l⟩ ⟨h1, h2⟩
  have h2' : l.length ≤ 40 := h2
  exact ao_run lx l h1 h2 l.length 0 true [] 0 (by omega) ⟨LInv.nil, fun _ h => (by cases h), fun _ h => (by cases h)⟩ (by omega) (by omega) (by simp) rounds (by simp only [rounds]; omega))
abbrev leaseAlone_id : Nat := 4
abbrev leaseAlone_sh : Shp := [none]
abbrev leaseAlone_fs : List Lf := [.fl true [.fi .u8, .fi .u8, .fi .u8, .fi .u8]]
abbrev leaseAlone_rsh : Shp := [none]
abbrev leaseAlone_rfs : List Lf := [.fb]
noncomputable def leaseAlone_r (l_x : Bool) (l : List (Int × Int × Int × Int)) : Option Ret :=
  oK (begunS.dec [] []) fun (d0 : PUnit) => bK (decide (40 < (↑(List.map (mkV true [Lf.fi IntKind.u8, Lf.fi IntKind.u8, Lf.fi IntKind.u8, Lf.fi IntKind.u8]) l).length : Int))) (some { pan := false, res := AV.bool true, out := [], new := [] }) (oK (aoL.dec { fr := [(0, AV.slc l_x (List.map (mkV true [Lf.fi IntKind.u8, Lf.fi IntKind.u8, Lf.fi IntKind.u8, Lf.fi IntKind.u8]) l)), (3, AV.slc true []), (4, AV.int IntKind.i64 0), (5, AV.int IntKind.i64 0)], bs := [], df := [] }) fun (d1 : Bool × List (Int × Int × Int × Int)) => some { pan := false, res := AV.bool true, out := [], new := [] })
theorem leaseAlone_w (l_x : Bool) (l : List (Int × Int × Int × Int)) : unitQ Try.prog cfg N5 aoP true 4 (groupA leaseAlone_sh (Tu.mk leaseAlone_fs (l_x, l))) [] = leaseAlone_r l_x l := by kernel_rfl

theorem leaseAlone_yes (l_x : Bool) (l : List (Int × Int × Int × Int)) (h : Tu.wf leaseAlone_fs (l_x, l)) : Yes (leaseAlone_r l_x l) := by
  have hl : ∀ r ∈ l, Tu.wf Row4_fs r := h.2
  unfold leaseAlone_r
  refine oK_fsq (Q := Yes) begunS () trivial ?_
  refine bK_iq (Q := Yes) (fun _ => yes_leaf) (fun c1 => ?_)
  rw [List.length_map] at c1
  exact oK_lpq (Q := Yes) aoHd_inj (l_x, l) ⟨hl, by show l.length ≤ 40; omega⟩ yes_leaf

end Go.Proofs.Ytbifdenekkijfaa
