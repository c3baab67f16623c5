/- A part of the proof: contracts of functions. -/
import Derived.Test.YtihgfpggdkhhaaaV
import Derived.Test.YtihgfpggdkhhaaaAbAny

set_option linter.unusedVariables false
set_option linter.unusedSimpArgs false
set_option maxRecDepth 100000
namespace Go.Proofs.Ytihgfpggdkhhaaa
open Go Go.Ab
def MaxN : Int := 1073741824
def fileOk (f : File_T) : Prop := (f.1 = [] ∧ f = zF) ∨ (mayNF f.1 = true ∧ 1 ≤ f.2.1 ∧ f.2.1 ≤ MaxN ∧ f.2.2.length ≤ 24)
def uniq (l : List File_T) : Prop := ∀ i j : Nat, i < l.length → j < l.length → (l.getD i zF).1 ≠ [] → (l.getD i zF).1 = (l.getD j zF).1 → i = j
def FsInv (l : List File_T) : Prop := l.length = 6 ∧ (∀ f ∈ l, fileOk f) ∧ uniq l
def markOk (B : Int) (m : Mark_T) : Prop := 0 ≤ m.1 ∧ m.1 ≤ B ∧ 0 ≤ m.2.1 ∧ m.2.1 ≤ 3 ∧ 0 ≤ m.2.2.1 ∧ m.2.2.1 ≤ 6 ∧ 0 ≤ m.2.2.2 ∧ m.2.2.2 ≤ MaxN
def MsInv (B : Int) (l : List Mark_T) : Prop := l.length = 3 ∧ ∀ m ∈ l, markOk B m
def StInv (k : Nat) (s : State_T) : Prop := FsInv s.1.2 ∧ MsInv (2 * (k : Int) + 1) s.2.1.2 ∧ 0 ≤ s.2.2 ∧ s.2.2 ≤ (k : Int)
theorem mayN_ne {nm : List UInt8} (h : mayNF nm = true) : nm ≠ [] := by
  intro e
  rw [e] at h
  unfold mayNF at h
  simp at h
theorem mk4 {B q e f v : Int} (h1 : 0 ≤ q) (h2 : q ≤ B) (h3 : 0 ≤ e) (h4 : e ≤ 3) (h5 : 0 ≤ f) (h6 : f ≤ 6) (h7 : 0 ≤ v) (h8 : v ≤ MaxN) : markOk B (q, e, f, v) := ⟨h1, h2, h3, h4, h5, h6, h7, h8⟩
theorem maxN0 : (0 : Int) ≤ MaxN := by unfold MaxN; decide
theorem maxN1 : (1 : Int) ≤ MaxN := by unfold MaxN; decide
theorem markOk_mono {B B' : Int} (h : B ≤ B') {m : Mark_T} (hm : markOk B m) : markOk B' m := ⟨hm.1, by have := hm.2.1; omega, hm.2.2⟩
theorem MsInv.mono {B B' : Int} (h : B ≤ B') {l : List Mark_T} (hl : MsInv B l) : MsInv B' l := ⟨hl.1, fun m hm => markOk_mono h (hl.2 m hm)⟩
theorem MsInv.put {B : Int} {l : List Mark_T} (h : MsInv B l) {m : Mark_T} (hm : markOk B m) (c : Int) : MsInv B (putL l c m) := by
  refine ⟨by rw [putL_len]; exact h.1, ?_⟩
  unfold putL
  split
  · intro x hx
    rcases List.mem_or_eq_of_mem_set hx with hx | hx
    · exact h.2 x hx
    · rw [hx]; exact hm
  · exact h.2
theorem getD_set (l : List File_T) (i j : Nat) (f : File_T) (hi : i < l.length) : ((l.set i f).getD j zF) = if j = i then f else l.getD j zF := by
  rw [List.getD_eq_getElem?_getD, List.getD_eq_getElem?_getD, List.getElem?_set]
  by_cases h : i = j
  · subst h; simp [hi]
  · rw [if_neg h, if_neg (fun e => h e.symm)]
theorem FsInv.set {l : List File_T} (h : FsInv l) {i : Nat} {f : File_T} (hf : fileOk f) (hu : f.1 = [] ∨ ∀ j, j < l.length → j ≠ i → (l.getD j zF).1 ≠ f.1) : FsInv (l.set i f) := by
  refine ⟨by rw [List.length_set]; exact h.1, ?_, ?_⟩
  · intro x hx
    rcases List.mem_or_eq_of_mem_set hx with hx | hx
    · exact h.2.1 x hx
    · rw [hx]; exact hf
  · intro a b ha hb h1 h2
    rw [List.length_set] at ha hb
    by_cases hi : i < l.length
    · rw [getD_set l i a f hi] at h1 h2
      rw [getD_set l i b f hi] at h2
      by_cases ea : a = i
      · rw [if_pos ea] at h1 h2
        by_cases eb : b = i
        · omega
        · rw [if_neg eb] at h2
          rcases hu with hu | hu
          · exact absurd hu h1
          · exact absurd h2.symm (hu b hb eb)
      · rw [if_neg ea] at h1 h2
        by_cases eb : b = i
        · rw [if_pos eb] at h2
          rcases hu with hu | hu
          · exact absurd (h2.trans hu) h1
          · exact absurd h2 (hu a ha ea)
        · rw [if_neg eb] at h2
          exact h.2.2 a b ha hb h1 h2
    · rw [List.set_eq_of_length_le (by omega)] at h1 h2
      exact h.2.2 a b ha hb h1 h2
theorem getD_memF {l : List File_T} {i : Nat} (h : i < l.length) : l.getD i zF ∈ l := by rw [getD_at h]; exact List.getElem_mem h
theorem fileOk_ver {f : File_T} (h : fileOk f) : 0 ≤ f.2.1 ∧ f.2.1 ≤ MaxN := by
  rcases h with ⟨_, h⟩ | ⟨_, h1, h2, _⟩
  · rw [h]; exact ⟨Int.le_refl _, by unfold MaxN; decide⟩
  · exact ⟨by omega, h2⟩
theorem fileOk_body {f : File_T} (h : fileOk f) : f.2.2.length ≤ 24 := by
  rcases h with ⟨_, h⟩ | ⟨_, _, _, h⟩
  · rw [h]; simp [zF]
  · exact h
theorem zF_ok : fileOk zF := .inl ⟨rfl, rfl⟩
theorem posN_zero {nm : List UInt8} : ∀ {l : List File_T} {i : Nat}, posN nm l i = 0 → ∀ j, j < l.length → (l.getD j zF).1 ≠ nm
  | f :: l, i, h, 0, _ => by
    unfold posN at h
    split at h
    · omega
    · rename_i hn; exact hn
  | f :: l, i, h, j + 1, hj => by
    unfold posN at h
    split at h
    · omega
    · exact posN_zero h j (by simpa using hj)
theorem posN_at {nm : List UInt8} : ∀ {l : List File_T} {i : Nat}, posN nm l i ≠ 0 → (l.getD (posN nm l i - i - 1) zF).1 = nm
  | [], i, h => absurd rfl h
  | f :: l, i, h => by
    unfold posN at h ⊢
    split
    · rename_i hf
      rw [show i + 1 - i - 1 = 0 by omega]
      exact hf
    · rename_i hf
      rw [if_neg hf] at h
      have := posN_at (l := l) (i := i + 1) h
      have hle := posN_le nm l (i + 1)
      have : posN nm l (i + 1) - i - 1 = (posN nm l (i + 1) - (i + 1) - 1) + 1 := by omega
      rw [this]
      simpa using ‹(l.getD (posN nm l (i + 1) - (i + 1) - 1) zF).1 = nm›
theorem sok_of {k : Nat} {s : State_T} (h : StInv k s) : sok s := ⟨by rw [h.1.1]; decide, by rw [h.1.1]; decide, by rw [h.2.1.1]; decide⟩
theorem sok2_of {k : Nat} {s : State_T} (h : StInv k s) : sok2 s := ⟨sok_of h, fun f hf => fileOk_body (h.1.2.1 f hf)⟩
theorem StInv.mark {k : Nat} {s : State_T} (h : StInv k s) {c a : Int} {m : Mark_T} {f : File_T} (hm : markOk (2 * ((k + 1 : Nat) : Int) + 1) m) (hf : FsInv (setF s.1.2 a f)) : StInv (k + 1) (markF s c m a f) := by
  refine ⟨hf, MsInv.put (MsInv.mono (by omega) h.2.1) hm c, h.2.2.1, ?_⟩
  show s.2.2 ≤ _
  have := h.2.2.2
  omega
theorem setF_zero (l : List File_T) (f : File_T) : setF l 0 f = l := rfl
theorem inv_open {k : Nat} {s : State_T} (h : StInv k s) {c q : Int} {nm : List UInt8} (hq : 0 ≤ q ∧ q ≤ 2 * ((k + 1 : Nat) : Int) + 1) : StInv (k + 1) (openF s c q nm).1 ∧ (openF s c q nm).2.1 = q := by
  have e : ∀ e : Int, 0 ≤ e → e ≤ 3 → markOk (2 * ((k + 1 : Nat) : Int) + 1) (q, e, 0, 0) := fun e h1 h2 => (mk4 (hq.1) (hq.2) (h1) (h2) (by decide) (by decide) (by decide) (maxN0))
  unfold openF
  split
  · rename_i hm
    split
    · rename_i hf
      refine ⟨h.mark ?_ h.1, rfl⟩
      have hin := findF_in _ _ hf
      have hl := h.1.1
      have hw : IntKind.i64.wrap ((findF s.1.2 nm).1 - 1) = (findF s.1.2 nm).1 - 1 := w64 (by omega) (by omega)
      have hv := fileOk_ver (h.1.2.1 _ (getD_memF (l := s.1.2) (i := (IntKind.i64.wrap ((findF s.1.2 nm).1 - 1)).toNat) (by rw [hw]; omega)))
      exact (mk4 (hq.1) (hq.2) (by decide) (by decide) (by show 0 ≤ (findF s.1.2 nm).1; omega) (by show (findF s.1.2 nm).1 ≤ 6; omega) (hv.1) (hv.2))
    · rename_i hf
      split
      · rename_i hr
        have hin := roomF_in _ hr
        have hl := h.1.1
        refine ⟨h.mark (mk4 (hq.1) (hq.2) (by decide) (by decide) (by show 0 ≤ (roomF s.1.2).1; omega) (by show (roomF s.1.2).1 ≤ 6; omega) (by decide) (maxN1)) ?_, rfl⟩
        unfold setF
        rw [if_pos (by omega)]
        refine h.1.set (.inr ⟨hm, Int.le_refl _, by show (1 : Int) ≤ MaxN; unfold MaxN; decide, by simp⟩) (.inr fun j hj _ => ?_)
        refine posN_zero (i := 0) ?_ j hj
        have hb : ¬ findB s.1.2 nm = true := fun hb => hf (by unfold findF; rw [if_pos hb])
        unfold findB at hb
        rw [hm, Bool.true_and] at hb
        simpa using hb
      · exact ⟨h.mark (e 3 (by decide) (by decide)) h.1, rfl⟩
  · exact ⟨h.mark (e 1 (by decide) (by decide)) h.1, rfl⟩
theorem inv_gone {k : Nat} {s : State_T} (h : StInv k s) {c q n : Int} (hq : 0 ≤ q ∧ q ≤ 2 * ((k + 1 : Nat) : Int) + 1) : StInv (k + 1) (goneF s c q n).1 ∧ (goneF s c q n).2.1 = q := by
  unfold goneF
  split
  · rename_i hn
    have hin := isF_in _ _ hn
    have hl := h.1.1
    refine ⟨h.mark (mk4 (hq.1) (hq.2) (by decide) (by decide) (by show 0 ≤ n; omega) (by show n ≤ 6; omega) (by decide) (maxN0)) ?_, rfl⟩
    unfold setF
    rw [if_pos (by omega)]
    exact h.1.set zF_ok (.inl rfl)
  · exact ⟨h.mark (mk4 (hq.1) (hq.2) (by decide) (by decide) (by decide) (by decide) (by decide) (maxN0)) h.1, rfl⟩
theorem verN_in {v : Int} (h : 0 ≤ v ∧ v ≤ MaxN) : 1 ≤ verN v ∧ verN v ≤ MaxN := by
  unfold verN MaxN at *
  rw [w64 (by omega) (by omega)]
  unfold minI
  split <;> omega
theorem inv_flush {k : Nat} {s : State_T} (h : StInv k s) {c q n : Int} {l : List Write_T} (hq : 0 ≤ q ∧ q ≤ 2 * ((k + 1 : Nat) : Int) + 1) : StInv (k + 1) (flushF s c q n l).1 ∧ (flushF s c q n l).2.1 = q := by
  unfold flushF
  split
  · rename_i hn
    have hin := isF_in _ _ hn
    have hl := h.1.1
    split
    · have hlt : (n - 1).toNat < s.1.2.length := by omega
      have hok := h.1.2.1 _ (getD_memF hlt)
      have hne : (s.1.2.getD (n - 1).toNat zF).1 ≠ [] := hin.2.2
      have hv := verN_in (fileOk_ver hok)
      refine ⟨h.mark (mk4 (hq.1) (hq.2) (by decide) (by decide) (by show 0 ≤ n; omega) (by show n ≤ 6; omega) (by have := hv.1; show 0 ≤ verN _; omega) (hv.2)) ?_, rfl⟩
      unfold setF
      rw [if_pos (by omega)]
      refine h.1.set (.inr ⟨?_, hv.1, hv.2, allB_le (fileOk_body hok) _⟩) (.inr fun j hj hji => ?_)
      · rcases hok with ⟨h1, _⟩ | ⟨h1, _⟩
        · exact absurd h1 hne
        · exact h1
      · intro he
        exact hji (h.1.2.2 j (n - 1).toNat hj hlt (by rw [he]; exact hne) he)
    · exact ⟨h.mark (mk4 (hq.1) (hq.2) (by decide) (by decide) (by decide) (by decide) (by decide) (maxN0)) h.1, rfl⟩
  · exact ⟨h.mark (mk4 (hq.1) (hq.2) (by decide) (by decide) (by decide) (by decide) (by decide) (maxN0)) h.1, rfl⟩
theorem inv_boot {k : Nat} {s : State_T} (h : StInv k s) (hk : k ≤ 1000) (he : s.2.2 + 1 ≤ (k : Int)) : StInv k (bootF s) := by
  refine ⟨h.1, h.2.1, ?_, ?_⟩
  · show 0 ≤ minI (IntKind.i64.wrap (s.2.2 + 1)) 1073741824
    have := h.2.2.1
    rw [w64 (by omega) (by omega)]
    unfold minI; split <;> omega
  · show minI (IntKind.i64.wrap (s.2.2 + 1)) 1073741824 ≤ (k : Int)
    have := h.2.2.1
    rw [w64 (by omega) (by omega)]
    unfold minI; split <;> omega
theorem inv_new : StInv 0 newF := by
  refine ⟨⟨rfl, ?_, ?_⟩, ⟨rfl, ?_⟩, by decide, by decide⟩
  · intro f hf
    have : f = zF := by simpa [newF] using hf
    rw [this]; exact zF_ok
  · intro i j hi hj h1 h2
    exfalso
    apply h1
    have hi' : i < 6 := hi
    match i, hi' with
    | 0, _ | 1, _ | 2, _ | 3, _ | 4, _ | 5, _ => rfl
  · intro m hm
    have : m = zM := by simpa [newF] using hm
    rw [this]
    exact mk4 (by decide) (by decide) (by decide) (by decide) (by decide) (by decide) (by decide) maxN0

end Go.Proofs.Ytihgfpggdkhhaaa
