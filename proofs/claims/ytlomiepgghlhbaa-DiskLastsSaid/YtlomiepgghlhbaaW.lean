/- A part of the proof: contracts of functions. -/
import Derived.Test.YtlomiepgghlhbaaV
import Derived.Test.YtlomiepgghlhbaaAbAny

set_option linter.unusedVariables false
set_option linter.unusedSimpArgs false
set_option maxRecDepth 100000
namespace Go.Proofs.Ytlomiepgghlhbaa
open Go Go.Ab
set_option maxHeartbeats 8000000
def cur (L : List (List UInt8)) (W : List Put_T) (k : Nat) : List UInt8 := lastQ W k (L[k]?.getD [])
theorem rea_cur (L : List (List UInt8)) (W : List Put_T) (k : Nat) (i : Int) (hi : i = (k : Int)) (h : k < L.length) : reaQ L W false i = (cur L W k, true) := by
  subst hi
  unfold reaQ cur
  rw [if_pos ⟨rfl, by omega, by omega⟩, Int.toNat_natCast]
abbrev ReD : Type := (Bool × List (List UInt8)) × (Bool × List (Int × List UInt8)) × Int × Bool × Int
theorem rd_q {R : Type} (a b : Bool) (L : List (List UInt8)) (W : List Put_T) (arm i : Int) (k : Nat) (s : List UInt8) (hi : i = (k : Int)) (hL : L.length = 4) (hk : k < 4) (hW : W.length ≤ 1000) (hs : s = cur L W k) {F K : Option R} {Q : Option R → Prop} (h : Q K) :
    Q (oK (reaS.dec [AV.agg [AV.slc a (List.map (mkV false [Lf.fs]) L), AV.slc b (List.map (mkV true Put_tfs) W), AV.int IntKind.i64 arm, AV.bool false], AV.int IntKind.i64 i] []) fun (d2 : ReD) =>
      bK (!(reaQ d2.fst.snd d2.snd.fst.snd d2.snd.snd.snd.fst d2.snd.snd.snd.snd).snd) F
        (bK (!decide ((reaQ d2.fst.snd d2.snd.fst.snd d2.snd.snd.snd.fst d2.snd.snd.snd.snd).fst = s)) F K)) := by
  refine oK_fsq reaS ((a, L), (b, W), arm, false, i) ⟨by show L.length ≤ 1000; omega, hW⟩ ?_
  have e : reaQ L W false i = (cur L W k, true) := rea_cur L W k i hi (by omega)
  refine bK_fq (by show (!(reaQ L W false i).2) = false; rw [e]; rfl) (bK_fq ?_ h)
  show (!decide ((reaQ L W false i).1 = s)) = false
  rw [e, hs]; simp
def drI (L : List (List UInt8)) (W : List Put_T) (s0 s1 s2 s3 : List UInt8) (i : Nat) : Prop := L.length = 4 ∧ W.length ≤ i ∧ (∀ s ∈ L, s.length = 32) ∧ (∀ p ∈ W, 0 ≤ p.1 ∧ p.1 < 4 ∧ p.2.length = 32) ∧ s0 = cur L W 0 ∧ s1 = cur L W 1 ∧ s2 = cur L W 2 ∧ s3 = cur L W 3
theorem drI_P {L : List (List UInt8)} {W : List Put_T} {s0 s1 s2 s3 : List UInt8} {i : Nat} (h : drI L W s0 s1 s2 s3 i) (hi : i ≤ 100) : dskP L W := by
  obtain ⟨h1, h2, h3, h4, _⟩ := h
  refine ⟨by intro e; rw [e] at h1; simp at h1, by omega, by omega, fun s hs => by rw [h3 s hs]; decide, fun p hp => by rw [(h4 p hp).2.2]; decide⟩
theorem drI_flush {L : List (List UInt8)} {W : List Put_T} {s0 s1 s2 s3 : List UInt8} {i : Nat} (h : drI L W s0 s1 s2 s3 i) : drI (flushF L W) [] s0 s1 s2 s3 (i + 1) := by
  obtain ⟨h1, h2, h3, h4, e0, e1, e2, e3⟩ := h
  have hg : ∀ k, k < 4 → cur (flushF L W) [] k = cur L W k := fun k hk => flushF_get W L h3 (fun p hp => (h4 p hp).2.2) k (by omega)
  exact ⟨by rw [flushF_len]; exact h1, by simp, flushF_32 W L h3, by simp, by rw [hg 0 (by decide)]; exact e0, by rw [hg 1 (by decide)]; exact e1, by rw [hg 2 (by decide)]; exact e2, by rw [hg 3 (by decide)]; exact e3⟩
theorem cur_snoc (L : List (List UInt8)) (W : List Put_T) (a : Nat) (b : List UInt8) (k : Nat) : cur L (W ++ [((a : Int), b)]) k = if a = k then b else cur L W k := by
  unfold cur
  rw [lastQ_snoc]
  by_cases h : a = k
  · rw [if_pos h, if_pos (by omega)]
  · rw [if_neg h, if_neg (by omega)]
theorem drI_write {L : List (List UInt8)} {W : List Put_T} {s0 s1 s2 s3 : List UInt8} {i : Nat} (h : drI L W s0 s1 s2 s3 i) (a : Nat) (ha : a < 4) (b : List UInt8) (hb : b.length = 32) :
    drI L (W ++ [((a : Int), b)]) (if a = 0 then b else s0) (if a = 1 then b else s1) (if a = 2 then b else s2) (if a = 3 then b else s3) (i + 1) := by
  obtain ⟨h1, h2, h3, h4, e0, e1, e2, e3⟩ := h
  refine ⟨h1, by simp; omega, h3, fun p hp => ?_, ?_, ?_, ?_, ?_⟩
  · rcases List.mem_append.1 hp with hp | hp
    · exact h4 p hp
    · simp only [List.mem_singleton] at hp
      subst hp
      exact ⟨by show (0 : Int) ≤ (a : Int); omega, by show (a : Int) < 4; omega, hb⟩
  · rw [cur_snoc, e0]
  · rw [cur_snoc, e1]
  · rw [cur_snoc, e2]
  · rw [cur_snoc, e3]
theorem wri_ok {L : List (List UInt8)} {W : List Put_T} (a : Int) (b : List UInt8) (h1 : 0 ≤ a) (h2 : a < (L.length : Int)) (hb : b.length = 32) : wriQ L W 0 false a b = ((L.isEmpty, L), (false, W ++ [(a, b)]), 0, false, true) := by
  unfold wriQ
  rw [if_pos ⟨rfl, h1, h2, hb⟩, if_neg (by decide)]
def drG (x : Bool) (l : List Row3) (i : Nat) (r : Option (St ⊕ (Ex × St))) : Prop := ∃ (y : Bool × List (List UInt8) × Bool × List Put_T × List UInt8 × List UInt8 × List UInt8 × List UInt8), drI y.2.1 y.2.2.2.1 y.2.2.2.2.1 y.2.2.2.2.2.1 y.2.2.2.2.2.2.1 y.2.2.2.2.2.2.2 (i + 1) ∧ r = some (.inl (drh x l y.1 y.2.1 y.2.2.1 y.2.2.2.1 y.2.2.2.2.1 y.2.2.2.2.2.1 y.2.2.2.2.2.2.1 y.2.2.2.2.2.2.2 ((i : Int) + 1)))
theorem dr_step (x : Bool) (l : List Row3) (dx : Bool) (L : List (List UInt8)) (wx : Bool) (W : List Put_T) (s0 s1 s2 s3 : List UInt8) (i : Nat) (hi : i < l.length) (hl : l.length ≤ 25) (h : drI L W s0 s1 s2 s3 i) (hr : ∀ r ∈ l, 0 ≤ r.2.1) : drG x l i (dr_s_r x l dx L wx W s0 s1 s2 s3 i) := by
  unfold dr_s_r
  have e1 : IntKind.i64.wrap ((i : Int) + 1) = (i : Int) + 1 := w64 (by omega) (by omega)
  rw [e1]
  have hP := drI_P h (by omega)
  have at_ : ∀ {Q : Option (St ⊕ (Ex × St)) → Prop} {k : Row3 → Option (St ⊕ (Ex × St))}, Q (k l[i]) → Q (oK (elemAt true Row3_fs (l.map (mkV true Row3_fs)) i) k) := fun hk => oK_atq (fs := Row3_fs) (0, 0, 0) (by omega) (by simpa using hi) (by rw [Int.toNat_natCast, getD_at hi]; exact hk)
  refine bK_tq (by simp; omega) (at_ ?_)
  have hrr := hr _ (List.getElem_mem hi)
  generalize l[i] = r at at_ hrr ⊢
  refine bK_iq (fun _ => ?_) (fun _ => ?_)
  · refine oK_fsq fluS ((dx, L), (wx, W), 0, false) hP ?_
    have hq : fluQ L W 0 false = ((false, flushF L W), (true, []), 0, false, true) := rfl
    have hI := drI_flush h
    obtain ⟨g1, g2, g3, g4, k0, k1, k2, k3⟩ := hI
    refine bK_fq (by show (!decide ((((fluQ L W 0 false).2.1.2.map (mkV true Put_tfs)).length : Int) = 0)) = false; rw [hq]; rfl) ?_
    simp only [hq]
    refine rd_q false true (flushF L W) [] 0 0 0 s0 rfl g1 (by decide) (by decide) k0 ?_
    refine rd_q false true (flushF L W) [] 0 1 1 s1 rfl g1 (by decide) (by decide) k1 ?_
    refine rd_q false true (flushF L W) [] 0 2 2 s2 rfl g1 (by decide) (by decide) k2 ?_
    refine rd_q false true (flushF L W) [] 0 3 3 s3 rfl g1 (by decide) (by decide) k3 ?_
    refine bK_fq rfl ?_
    exact ⟨(false, flushF L W, true, [], s0, s1, s2, s3), ⟨g1, g2, g3, g4, k0, k1, k2, k3⟩, rfl⟩
  · refine at_ (at_ (oK_fsq secS r.2.2 trivial ?_))
    have hb := secQ_len r.2.2
    have hm0 : 0 ≤ Int.tmod r.2.1 4 := Int.tmod_nonneg 4 hrr
    have hm1 : Int.tmod r.2.1 4 < 4 := Int.tmod_lt_of_pos r.2.1 (by decide)
    have wq : ∀ (a : Nat), a < 4 → Int.tmod r.2.1 4 = (a : Int) → wriQ L W 0 false (IntKind.i64.wrap (Int.tmod r.2.1 4)) (secQ r.2.2) = ((L.isEmpty, L), (false, W ++ [((a : Int), secQ r.2.2)]), 0, false, true) := fun a ha e => by
      rw [e, w64 (n := (a : Int)) (by omega) (by omega)]
      exact wri_ok a (secQ r.2.2) (by omega) (by rw [h.1]; omega) hb
    have hLW : L.length ≤ 100000 ∧ W.length ≤ 100000 ∧ (0 : Int) ≤ 100000 := ⟨by rw [h.1]; decide, by have := h.2.1; omega, by decide⟩
    refine bK_iq (fun hc => ?_) (fun hc0 => ?_)
    · refine at_ (at_ (oK_fsq secS r.2.2 trivial ?_))
      refine oK_fsq wriS ((dx, L), (wx, W), 0, false, IntKind.i64.wrap (Int.tmod r.2.1 4), secQ r.2.2) hLW ?_
      simp only [wq 0 (by decide) hc]
      obtain ⟨g1, g2, g3, g4, k0, k1, k2, k3⟩ := drI_write h 0 (by decide) (secQ r.2.2) hb
      refine rd_q L.isEmpty false L (W ++ [(((0 : Nat) : Int), secQ r.2.2)]) 0 0 0 (secQ r.2.2) rfl g1 (by decide) (by omega) k0 ?_
      refine rd_q L.isEmpty false L (W ++ [(((0 : Nat) : Int), secQ r.2.2)]) 0 1 1 s1 rfl g1 (by decide) (by omega) k1 ?_
      refine rd_q L.isEmpty false L (W ++ [(((0 : Nat) : Int), secQ r.2.2)]) 0 2 2 s2 rfl g1 (by decide) (by omega) k2 ?_
      refine rd_q L.isEmpty false L (W ++ [(((0 : Nat) : Int), secQ r.2.2)]) 0 3 3 s3 rfl g1 (by decide) (by omega) k3 ?_
      exact bK_fq rfl ⟨(L.isEmpty, L, false, W ++ [(((0 : Nat) : Int), secQ r.2.2)], (secQ r.2.2), s1, s2, s3), ⟨g1, g2, g3, g4, k0, k1, k2, k3⟩, rfl⟩
    refine bK_iq (fun hc => ?_) (fun hc1 => ?_)
    · refine at_ (at_ (oK_fsq secS r.2.2 trivial ?_))
      refine oK_fsq wriS ((dx, L), (wx, W), 0, false, IntKind.i64.wrap (Int.tmod r.2.1 4), secQ r.2.2) hLW ?_
      simp only [wq 1 (by decide) hc]
      obtain ⟨g1, g2, g3, g4, k0, k1, k2, k3⟩ := drI_write h 1 (by decide) (secQ r.2.2) hb
      refine rd_q L.isEmpty false L (W ++ [(((1 : Nat) : Int), secQ r.2.2)]) 0 0 0 s0 rfl g1 (by decide) (by omega) k0 ?_
      refine rd_q L.isEmpty false L (W ++ [(((1 : Nat) : Int), secQ r.2.2)]) 0 1 1 (secQ r.2.2) rfl g1 (by decide) (by omega) k1 ?_
      refine rd_q L.isEmpty false L (W ++ [(((1 : Nat) : Int), secQ r.2.2)]) 0 2 2 s2 rfl g1 (by decide) (by omega) k2 ?_
      refine rd_q L.isEmpty false L (W ++ [(((1 : Nat) : Int), secQ r.2.2)]) 0 3 3 s3 rfl g1 (by decide) (by omega) k3 ?_
      exact bK_fq rfl ⟨(L.isEmpty, L, false, W ++ [(((1 : Nat) : Int), secQ r.2.2)], s0, (secQ r.2.2), s2, s3), ⟨g1, g2, g3, g4, k0, k1, k2, k3⟩, rfl⟩
    refine bK_iq (fun hc => ?_) (fun hc2 => ?_)
    · refine at_ (at_ (oK_fsq secS r.2.2 trivial ?_))
      refine oK_fsq wriS ((dx, L), (wx, W), 0, false, IntKind.i64.wrap (Int.tmod r.2.1 4), secQ r.2.2) hLW ?_
      simp only [wq 2 (by decide) hc]
      obtain ⟨g1, g2, g3, g4, k0, k1, k2, k3⟩ := drI_write h 2 (by decide) (secQ r.2.2) hb
      refine rd_q L.isEmpty false L (W ++ [(((2 : Nat) : Int), secQ r.2.2)]) 0 0 0 s0 rfl g1 (by decide) (by omega) k0 ?_
      refine rd_q L.isEmpty false L (W ++ [(((2 : Nat) : Int), secQ r.2.2)]) 0 1 1 s1 rfl g1 (by decide) (by omega) k1 ?_
      refine rd_q L.isEmpty false L (W ++ [(((2 : Nat) : Int), secQ r.2.2)]) 0 2 2 (secQ r.2.2) rfl g1 (by decide) (by omega) k2 ?_
      refine rd_q L.isEmpty false L (W ++ [(((2 : Nat) : Int), secQ r.2.2)]) 0 3 3 s3 rfl g1 (by decide) (by omega) k3 ?_
      exact bK_fq rfl ⟨(L.isEmpty, L, false, W ++ [(((2 : Nat) : Int), secQ r.2.2)], s0, s1, (secQ r.2.2), s3), ⟨g1, g2, g3, g4, k0, k1, k2, k3⟩, rfl⟩
    refine bK_iq (fun hc => ?_) (fun hc3 => ?_)
    · refine at_ (at_ (oK_fsq secS r.2.2 trivial ?_))
      refine oK_fsq wriS ((dx, L), (wx, W), 0, false, IntKind.i64.wrap (Int.tmod r.2.1 4), secQ r.2.2) hLW ?_
      simp only [wq 3 (by decide) hc]
      obtain ⟨g1, g2, g3, g4, k0, k1, k2, k3⟩ := drI_write h 3 (by decide) (secQ r.2.2) hb
      refine rd_q L.isEmpty false L (W ++ [(((3 : Nat) : Int), secQ r.2.2)]) 0 0 0 s0 rfl g1 (by decide) (by omega) k0 ?_
      refine rd_q L.isEmpty false L (W ++ [(((3 : Nat) : Int), secQ r.2.2)]) 0 1 1 s1 rfl g1 (by decide) (by omega) k1 ?_
      refine rd_q L.isEmpty false L (W ++ [(((3 : Nat) : Int), secQ r.2.2)]) 0 2 2 s2 rfl g1 (by decide) (by omega) k2 ?_
      refine rd_q L.isEmpty false L (W ++ [(((3 : Nat) : Int), secQ r.2.2)]) 0 3 3 (secQ r.2.2) rfl g1 (by decide) (by omega) k3 ?_
      exact bK_fq rfl ⟨(L.isEmpty, L, false, W ++ [(((3 : Nat) : Int), secQ r.2.2)], s0, s1, s2, (secQ r.2.2)), ⟨g1, g2, g3, g4, k0, k1, k2, k3⟩, rfl⟩
    · exfalso; omega

end Go.Proofs.Ytlomiepgghlhbaa
