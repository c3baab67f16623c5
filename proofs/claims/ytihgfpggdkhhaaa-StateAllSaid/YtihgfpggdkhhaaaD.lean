/- A part of the proof: contracts of functions. -/
import Derived.Test.YtihgfpggdkhhaaaA
import Derived.Test.YtihgfpggdkhhaaaAbAny

set_option linter.unusedVariables false
set_option linter.unusedSimpArgs false
set_option maxRecDepth 100000
namespace Go.Proofs.Ytihgfpggdkhhaaa
open Go Go.Ab
theorem oK_e {α R : Type} {o : Option α} {v : α} (e : o = some v) {k : α → Option R} {Q : Option R → Prop} (hz : Q (k v)) : Q (oK o k) := by
  rw [e, oK_some]; exact hz
theorem fourN (a b c d : Int) : (!(decide (a = a) && (decide (b = b) && (decide (c = c) && (decide (d = d) && true))))) = false := by simp
theorem fourY (a b c d : Int) : (decide (a = a) && (decide (b = b) && (decide (c = c) && (decide (d = d) && true)))) = true := by simp
theorem stEq_y (a : State_T) : stEqQ a a = true := decide_eq_true ⟨rfl, rfl, rfl⟩
theorem stEq_n (a : State_T) : (!stEqQ a a) = false := by rw [stEq_y]; rfl
theorem stEq_b (s : State_T) : stEqQ (bootPF s) (bootF s) = true := decide_eq_true ⟨rfl, rfl, rfl⟩
theorem beq_y (a : Bool) : (a == a) = true := by cases a <;> rfl
def lenP (s : State_T) : Prop := s.1.2.length ≤ 100000 ∧ s.2.1.2.length ≤ 100000
theorem lenO {s : State_T} (h : StInv 30 s) (c q : Int) (nm : List UInt8) : lenP (openF s c q nm).1 := by
  refine ⟨?_, by rw [(open_marks s c q nm).1, putL_len, h.2.1.1]; decide⟩
  rcases open_files s c q nm with e | ⟨_, _, f, e⟩
  · rw [e, h.1.1]; decide
  · rw [e, List.length_set, h.1.1]; decide
theorem lenF {s : State_T} (h : StInv 30 s) (c q n : Int) (l : List Write_T) : lenP (flushF s c q n l).1 := by
  refine ⟨?_, by rw [(flush_marks s c q n l).1, putL_len, h.2.1.1]; decide⟩
  rcases flush_files s c q n l with e | ⟨_, f, _, e⟩
  · rw [e, h.1.1]; decide
  · rw [e, List.length_set, h.1.1]; decide
theorem lenG {s : State_T} (h : StInv 30 s) (c q n : Int) : lenP (goneF s c q n).1 := by
  refine ⟨?_, ?_⟩
  · rw [gone_files]
    split
    · rw [List.length_set, h.1.1]; decide
    · rw [h.1.1]; decide
  · have : (goneF s c q n).1.2.1.2.length = s.2.1.2.length := by
      unfold goneF
      split
      · simp only [markF, putL_len]
      · simp only [markF, putL_len]
    rw [this, h.2.1.1]; decide
theorem set_names {l : List File_T} (h : ∀ f ∈ l, f.1.length ≤ 1000) (i : Nat) {g : File_T} (hg : g.1.length ≤ 1000) : ∀ f ∈ l.set i g, f.1.length ≤ 1000 := fun f hf => by
  rcases List.mem_or_eq_of_mem_set hf with hf | hf
  · exact h f hf
  · rw [hf]; exact hg
theorem tuQ_ok {s : State_T} (h : StInv 30 s) (how f t : Int) : mayPS.pre (tuQ s how f t) := by
  have hn : ∀ f ∈ s.1.2, f.1.length ≤ 1000 := fun f hf => by have := name_le (h.1.2.1 f hf); omega
  have hg : ∀ k : Nat, (s.1.2.getD k zF).1.length ≤ 1000 := fun k => by
    by_cases hk : k < s.1.2.length
    · rw [getD_at hk]; exact hn _ (List.getElem_mem hk)
    · rw [List.getD_eq_getElem?_getD, List.getElem?_eq_none (by omega)]; decide
  have l1 := h.1.1
  have l2 := h.2.1.1
  show (tuQ s how f t).1.2.length ≤ 100000 ∧ (tuQ s how f t).2.1.2.length ≤ 100000 ∧ ∀ g ∈ (tuQ s how f t).1.2, g.1.length ≤ 1000
  unfold tuQ
  dsimp only
  split
  · exact ⟨by simp only [l1]; omega, by simp only [l2]; omega, hn⟩
  split
  · exact ⟨by simp only [List.length_set, l1]; omega, by simp only [l2]; omega, set_names hn _ (hg _)⟩
  split
  · exact ⟨by simp only [List.length_set, l1]; omega, by simp only [l2]; omega, set_names hn _ (by show ([97] : List UInt8).length ≤ 1000; decide)⟩
  split
  · exact ⟨by simp only [List.length_set, l1]; omega, by simp only [l2]; omega, set_names hn _ (by show ([97, 32, 98] : List UInt8).length ≤ 1000; decide)⟩
  split
  · exact ⟨by simp only [List.length_set, l1]; omega, by simp only [l2]; omega, set_names hn _ (hg _)⟩
  split
  · exact ⟨by simp only [l1]; omega, by simp only [List.length_set, l2]; omega, hn⟩
  split
  · exact ⟨by simp only [l1]; omega, by simp only [List.length_set, l2]; omega, hn⟩
  split
  · exact ⟨by simp only [List.length_take, l1]; omega, by simp only [l2]; omega, fun g hg' => hn g (List.mem_of_mem_take hg')⟩
  split
  · exact ⟨by simp only [l1]; omega, by simp only [List.length_append, l2, List.length_singleton]; omega, hn⟩
  exact ⟨by simp only [l1]; omega, by simp only [l2]; omega, hn⟩
theorem lots0 (x : Bool) (l : List Write_T) (y z : AV) : ldRow [Lf.fl true Write_tfs] [.slc x (l.map (mkV true Write_tfs)), y, z] 0 0 = some (x, l) := by
  have e := dec_fl (agg := true) (fs := Write_tfs) rfl x l
  simp [ldRow, ldCells, AV.cells, Tu.dec, e]
theorem lots1 (x : Bool) (l : List Write_T) (y z : AV) : ldRow [Lf.fl true Write_tfs] [y, .slc x (l.map (mkV true Write_tfs)), z] 1 0 = some (x, l) := by
  have e := dec_fl (agg := true) (fs := Write_tfs) rfl x l
  simp [ldRow, ldCells, AV.cells, Tu.dec, e]
set_option maxHeartbeats 8000000 in
theorem stateAll_yes (picks_x : Bool) (picks : List Int) (more_x : Bool) (more : List Int) (name : List UInt8) (wild_x : Bool) (wild : List Write_T) (client : Int) (seq : Int) (file : Int) (how : Int) (to_ : Int) (h : Tu.wf stateAll_fs ((picks_x, picks), (more_x, more), name, (wild_x, wild), client, seq, file, how, to_)) : Yes (stateAll_r picks_x picks more_x more name wild_x wild client seq file how to_) := by
  unfold stateAll_r
  refine oK_fsq begunS () trivial ?_
  refine bK_iq (fun _ => yes_leaf) (fun h1 => bK_iq (fun _ => yes_leaf) (fun h2 => bK_iq (fun _ => yes_leaf) (fun h3 => bK_iq (fun _ => yes_leaf) (fun h4 => ?_))))
  rw [List.length_map] at h1 h2 h4
  obtain ⟨⟨_, w1⟩, ⟨_, w2⟩, _⟩ := h
  refine oK_lpq waHd_inj ((picks_x, picks), (more_x, more), name, (wild_x, wild), client, seq, file, how, to_) (by show wild.length ≤ 8; omega) ?_
  dsimp only
  refine bK_bq (fun _ => ?_) (fun _ => yes_leaf)
  have hp1 : pkOk ((picks_x, picks), 0) := picks_ok (by omega) w1
  have hp2 : pkOk ((more_x, more), 0) := picks_ok (by omega) w2
  have hsp : stP (((picks_x, picks), 0), 25) := ⟨hp1, by show (0 : Int) ≤ 25; decide, by show (25 : Int) ≤ 30; decide⟩
  refine oK_msq statePS ((picks_x, picks), (0 : Int)) (25 : Int) hsp ?_
  have hst := (stR_spec _ hsp).1.2
  dsimp only
  generalize stR (((picks_x, picks), 0), 25) = z at hst ⊢
  obtain ⟨zb, s⟩ := z
  dsimp only at hst ⊢
  generalize IntKind.i64.wrap (1 + IntKind.i64.wrap (client.tmod 3)) = c
  generalize IntKind.i64.wrap (1 + IntKind.i64.wrap seq) = q
  generalize IntKind.i64.wrap (IntKind.i64.wrap (file.tmod 9) - 1) = n
  have hsP := sokP_of hst
  have hsQ : s.1.2.length ≤ 100000 ∧ s.2.1.2.length ≤ 100000 := ⟨by rw [hst.1.1]; decide, by rw [hst.2.1.1]; decide⟩
  have hbody : ∀ f ∈ s.1.2, f.2.2.length ≤ 24 := fun f hf => fileOk_body (hst.1.2.1 f hf)
  have hnA : name.length ≤ 1000 := by omega
  have hwA : wild.length ≤ 1000 := by omega
  have hw0 : ([] : List Write_T).length ≤ 1000 := by decide
  refine oK_msq nameS ((more_x, more), (0 : Int)) () hp2 ?_
  have pB0 : pkOk (nameF ((more_x, more), 0)).1 := nameF_ok hp2
  have hnm := nameF_len ((more_x, more), 0)
  dsimp only
  generalize nameF ((more_x, more), 0) = y0 at pB0 hnm ⊢
  obtain ⟨B0, nm⟩ := y0
  dsimp only at pB0 hnm ⊢
  have hnB : nm.length ≤ 1000 := by omega
  refine oK_msq writesoS B0 (7 : Int) ⟨pB0, by decide, by decide⟩ ?_
  have lW := writesF_len (most := 7) pB0 (by decide)
  have e2 : (writesQ B0 7).2.2 = (writesF B0 7).2.2 := rfl
  dsimp only
  rw [e2]
  generalize (writesF B0 7).2.2 = W1 at lW ⊢
  have hwB : W1.length ≤ 1000 := by omega
  refine bK_bq (fun _ => ?_) (fun _ => ?_)
  · refine oK_fsq openPS (s.1, s.2.1, s.2.2, c, q, name) ⟨hsP, hnA⟩ ?_
    refine oK_fsq openRS (s.1, s.2.1, s.2.2, c, q, name) ⟨sok_of hst, hnA⟩ ?_
    refine oK_e (lots0 _ _ _ _) ?_
    refine oK_fsq flushPS (s.1, s.2.1, s.2.2, c, q, n, (wild_x, wild)) ⟨⟨hsP, hbody⟩, hwA⟩ ?_
    refine oK_e (lots0 _ _ _ _) ?_
    refine oK_fsq flushRS (s.1, s.2.1, s.2.2, c, q, n, (wild_x, wild)) ⟨sok2_of hst, hwA⟩ ?_
    dsimp only
    refine bK_fq (fourN _ _ _ _) ?_
    refine oK_fsq samesPS ((openF s c q name).1.1, (openF s c q name).1.2.1, (openF s c q name).1.2.2, (openF s c q name).1.1, (openF s c q name).1.2.1, (openF s c q name).1.2.2) (lenO hst c q _) ?_
    refine bK_fq (stEq_n _) ?_
    refine bK_fq (fourN _ _ _ _) ?_
    refine oK_fsq samesPS ((flushF s c q n wild).1.1, (flushF s c q n wild).1.2.1, (flushF s c q n wild).1.2.2, (flushF s c q n wild).1.1, (flushF s c q n wild).1.2.1, (flushF s c q n wild).1.2.2) (lenF hst c q n _) ?_
    refine bK_fq (stEq_n _) ?_
    refine oK_fsq openPS (s.1, s.2.1, s.2.2, c, q, nm) ⟨hsP, hnB⟩ ?_
    refine oK_fsq openRS (s.1, s.2.1, s.2.2, c, q, nm) ⟨sok_of hst, hnB⟩ ?_
    refine oK_fsq flushPS (s.1, s.2.1, s.2.2, c, q, n, (true, ([] : List Write_T))) ⟨⟨hsP, hbody⟩, hw0⟩ ?_
    refine oK_fsq flushRS (s.1, s.2.1, s.2.2, c, q, n, (true, ([] : List Write_T))) ⟨sok2_of hst, hw0⟩ ?_
    dsimp only
    refine bK_fq (fourN _ _ _ _) ?_
    refine oK_fsq samesPS ((openF s c q nm).1.1, (openF s c q nm).1.2.1, (openF s c q nm).1.2.2, (openF s c q nm).1.1, (openF s c q nm).1.2.1, (openF s c q nm).1.2.2) (lenO hst c q _) ?_
    refine bK_fq (stEq_n _) ?_
    refine bK_fq (fourN _ _ _ _) ?_
    refine oK_fsq samesPS ((flushF s c q n ([] : List Write_T)).1.1, (flushF s c q n ([] : List Write_T)).1.2.1, (flushF s c q n ([] : List Write_T)).1.2.2, (flushF s c q n ([] : List Write_T)).1.1, (flushF s c q n ([] : List Write_T)).1.2.1, (flushF s c q n ([] : List Write_T)).1.2.2) (lenF hst c q n _) ?_
    refine bK_fq (stEq_n _) ?_
    refine oK_fsq openPS (s.1, s.2.1, s.2.2, c, q, name) ⟨hsP, hnA⟩ ?_
    refine oK_fsq openRS (s.1, s.2.1, s.2.2, c, q, name) ⟨sok_of hst, hnA⟩ ?_
    refine oK_fsq flushPS (s.1, s.2.1, s.2.2, c, q, n, (true, ([] : List Write_T))) ⟨⟨hsP, hbody⟩, hw0⟩ ?_
    refine oK_fsq flushRS (s.1, s.2.1, s.2.2, c, q, n, (true, ([] : List Write_T))) ⟨sok2_of hst, hw0⟩ ?_
    dsimp only
    refine bK_fq (fourN _ _ _ _) ?_
    refine oK_fsq samesPS ((openF s c q name).1.1, (openF s c q name).1.2.1, (openF s c q name).1.2.2, (openF s c q name).1.1, (openF s c q name).1.2.1, (openF s c q name).1.2.2) (lenO hst c q _) ?_
    refine bK_fq (stEq_n _) ?_
    refine bK_fq (fourN _ _ _ _) ?_
    refine oK_fsq samesPS ((flushF s c q n ([] : List Write_T)).1.1, (flushF s c q n ([] : List Write_T)).1.2.1, (flushF s c q n ([] : List Write_T)).1.2.2, (flushF s c q n ([] : List Write_T)).1.1, (flushF s c q n ([] : List Write_T)).1.2.1, (flushF s c q n ([] : List Write_T)).1.2.2) (lenF hst c q n _) ?_
    refine bK_fq (stEq_n _) ?_
    refine oK_fsq gonePS (s.1, s.2.1, s.2.2, c, q, n) hsP ?_
    refine oK_fsq goneRS (s.1, s.2.1, s.2.2, c, q, n) (sok_of hst) ?_
    refine oK_fsq turnS (s.1, s.2.1, s.2.2, how, n, to_) ⟨hst.1.1, hst.2.1.1, hbody⟩ ?_
    dsimp only
    have tk := tuQ_ok hst how n to_
    generalize tuQ s how n to_ = t at tk ⊢
    refine bK_tq (fourY _ _ _ _) ?_
    refine oK_fsq samesPS ((goneF s c q n).1.1, (goneF s c q n).1.2.1, (goneF s c q n).1.2.2, (goneF s c q n).1.1, (goneF s c q n).1.2.1, (goneF s c q n).1.2.2) (lenG hst c q n) ?_
    refine bK_tq (stEq_y _) ?_
    refine oK_fsq bootPS s hsP ?_
    refine oK_fsq bootRS s trivial ?_
    refine oK_fsq samesPS ((bootPF s).1, (bootPF s).2.1, (bootPF s).2.2, (bootF s).1, (bootF s).2.1, (bootF s).2.2) hsQ ?_
    refine bK_tq (stEq_b s) ?_
    refine oK_fsq mayPS s (mayPre hst.1 hst.2.1) ?_
    refine bK_tq (mayQ_of hst.1 (by decide) hst.2.1 hst.2.2.1 (by have := hst.2.2.2; omega)) ?_
    refine oK_fsq mayPS t tk ?_
    refine oK_fsq myRS t tk ?_
    refine bK_tq (beq_y _) ?_
    refine oK_fsq samePS (s.1, s.2.1, s.2.2, t.1, t.2.1, t.2.2) hsQ ?_
    refine oK_fsq samesPS (s.1, s.2.1, s.2.2, t.1, t.2.1, t.2.2) hsQ ?_
    refine bK_tq (beq_y _) ?_
    refine oK_fsq newSS () trivial ?_
    refine oK_fsq samesPS (newF.1, newF.2.1, newF.2.2, newF.1, newF.2.1, newF.2.2) ⟨by decide, by decide⟩ ?_
    exact yes_of (stEq_y newF)
  · refine bK_tq (decide_eq_true (by omega)) ?_
    rw [List.drop_zero, List.take_length]
    refine oK_fsq openPS (s.1, s.2.1, s.2.2, c, q, name) ⟨hsP, hnA⟩ ?_
    refine oK_fsq openRS (s.1, s.2.1, s.2.2, c, q, name) ⟨sok_of hst, hnA⟩ ?_
    refine oK_e (lots0 _ _ _ _) ?_
    refine oK_fsq flushPS (s.1, s.2.1, s.2.2, c, q, n, (wild_x, wild)) ⟨⟨hsP, hbody⟩, hwA⟩ ?_
    refine oK_e (lots0 _ _ _ _) ?_
    refine oK_fsq flushRS (s.1, s.2.1, s.2.2, c, q, n, (wild_x, wild)) ⟨sok2_of hst, hwA⟩ ?_
    dsimp only
    refine bK_fq (fourN _ _ _ _) ?_
    refine oK_fsq samesPS ((openF s c q name).1.1, (openF s c q name).1.2.1, (openF s c q name).1.2.2, (openF s c q name).1.1, (openF s c q name).1.2.1, (openF s c q name).1.2.2) (lenO hst c q _) ?_
    refine bK_fq (stEq_n _) ?_
    refine bK_fq (fourN _ _ _ _) ?_
    refine oK_fsq samesPS ((flushF s c q n wild).1.1, (flushF s c q n wild).1.2.1, (flushF s c q n wild).1.2.2, (flushF s c q n wild).1.1, (flushF s c q n wild).1.2.1, (flushF s c q n wild).1.2.2) (lenF hst c q n _) ?_
    refine bK_fq (stEq_n _) ?_
    refine oK_fsq openPS (s.1, s.2.1, s.2.2, c, q, nm) ⟨hsP, hnB⟩ ?_
    refine oK_fsq openRS (s.1, s.2.1, s.2.2, c, q, nm) ⟨sok_of hst, hnB⟩ ?_
    refine oK_e (lots1 _ _ _ _) ?_
    refine oK_fsq flushPS (s.1, s.2.1, s.2.2, c, q, n, (false, W1)) ⟨⟨hsP, hbody⟩, hwB⟩ ?_
    refine oK_e (lots1 _ _ _ _) ?_
    refine oK_fsq flushRS (s.1, s.2.1, s.2.2, c, q, n, (false, W1)) ⟨sok2_of hst, hwB⟩ ?_
    dsimp only
    refine bK_fq (fourN _ _ _ _) ?_
    refine oK_fsq samesPS ((openF s c q nm).1.1, (openF s c q nm).1.2.1, (openF s c q nm).1.2.2, (openF s c q nm).1.1, (openF s c q nm).1.2.1, (openF s c q nm).1.2.2) (lenO hst c q _) ?_
    refine bK_fq (stEq_n _) ?_
    refine bK_fq (fourN _ _ _ _) ?_
    refine oK_fsq samesPS ((flushF s c q n W1).1.1, (flushF s c q n W1).1.2.1, (flushF s c q n W1).1.2.2, (flushF s c q n W1).1.1, (flushF s c q n W1).1.2.1, (flushF s c q n W1).1.2.2) (lenF hst c q n _) ?_
    refine bK_fq (stEq_n _) ?_
    refine oK_fsq openPS (s.1, s.2.1, s.2.2, c, q, name) ⟨hsP, hnA⟩ ?_
    refine oK_fsq openRS (s.1, s.2.1, s.2.2, c, q, name) ⟨sok_of hst, hnA⟩ ?_
    refine oK_fsq flushPS (s.1, s.2.1, s.2.2, c, q, n, (true, ([] : List Write_T))) ⟨⟨hsP, hbody⟩, hw0⟩ ?_
    refine oK_fsq flushRS (s.1, s.2.1, s.2.2, c, q, n, (true, ([] : List Write_T))) ⟨sok2_of hst, hw0⟩ ?_
    dsimp only
    refine bK_fq (fourN _ _ _ _) ?_
    refine oK_fsq samesPS ((openF s c q name).1.1, (openF s c q name).1.2.1, (openF s c q name).1.2.2, (openF s c q name).1.1, (openF s c q name).1.2.1, (openF s c q name).1.2.2) (lenO hst c q _) ?_
    refine bK_fq (stEq_n _) ?_
    refine bK_fq (fourN _ _ _ _) ?_
    refine oK_fsq samesPS ((flushF s c q n ([] : List Write_T)).1.1, (flushF s c q n ([] : List Write_T)).1.2.1, (flushF s c q n ([] : List Write_T)).1.2.2, (flushF s c q n ([] : List Write_T)).1.1, (flushF s c q n ([] : List Write_T)).1.2.1, (flushF s c q n ([] : List Write_T)).1.2.2) (lenF hst c q n _) ?_
    refine bK_fq (stEq_n _) ?_
    refine oK_fsq gonePS (s.1, s.2.1, s.2.2, c, q, n) hsP ?_
    refine oK_fsq goneRS (s.1, s.2.1, s.2.2, c, q, n) (sok_of hst) ?_
    refine oK_fsq turnS (s.1, s.2.1, s.2.2, how, n, to_) ⟨hst.1.1, hst.2.1.1, hbody⟩ ?_
    dsimp only
    have tk := tuQ_ok hst how n to_
    generalize tuQ s how n to_ = t at tk ⊢
    refine bK_tq (fourY _ _ _ _) ?_
    refine oK_fsq samesPS ((goneF s c q n).1.1, (goneF s c q n).1.2.1, (goneF s c q n).1.2.2, (goneF s c q n).1.1, (goneF s c q n).1.2.1, (goneF s c q n).1.2.2) (lenG hst c q n) ?_
    refine bK_tq (stEq_y _) ?_
    refine oK_fsq bootPS s hsP ?_
    refine oK_fsq bootRS s trivial ?_
    refine oK_fsq samesPS ((bootPF s).1, (bootPF s).2.1, (bootPF s).2.2, (bootF s).1, (bootF s).2.1, (bootF s).2.2) hsQ ?_
    refine bK_tq (stEq_b s) ?_
    refine oK_fsq mayPS s (mayPre hst.1 hst.2.1) ?_
    refine bK_tq (mayQ_of hst.1 (by decide) hst.2.1 hst.2.2.1 (by have := hst.2.2.2; omega)) ?_
    refine oK_fsq mayPS t tk ?_
    refine oK_fsq myRS t tk ?_
    refine bK_tq (beq_y _) ?_
    refine oK_fsq samePS (s.1, s.2.1, s.2.2, t.1, t.2.1, t.2.2) hsQ ?_
    refine oK_fsq samesPS (s.1, s.2.1, s.2.2, t.1, t.2.1, t.2.2) hsQ ?_
    refine bK_tq (beq_y _) ?_
    refine oK_fsq newSS () trivial ?_
    refine oK_fsq samesPS (newF.1, newF.2.1, newF.2.2, newF.1, newF.2.1, newF.2.2) ⟨by decide, by decide⟩ ?_
    exact yes_of (stEq_y newF)

end Go.Proofs.Ytihgfpggdkhhaaa
