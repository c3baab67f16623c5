/- A part of the proof: contracts of functions. -/
import Derived.Test.YtihgfpggdkhhaaaM
import Derived.Test.YtihgfpggdkhhaaaAbAny

set_option linter.unusedVariables false
set_option linter.unusedSimpArgs false
set_option maxRecDepth 100000
namespace Go.Proofs.Ytihgfpggdkhhaaa
open Go Go.Ab
noncomputable def N0 : PKs := D8PK4
theorem N0_ok : PKsOk Try.prog N0 := D8PK4_ok
noncomputable def cfu (x : Bool) (d : File_T) (l : List File_T) : Option Ret := unitQ Try.prog cfg N0 LP0 true 71 [.slc x (mkV true File_tfs d :: l.map (mkV true File_tfs))] []
noncomputable def cfu_r (x : Bool) (d : File_T) (l : List File_T) : Option Ret :=
  bK ((AV.agg [AV.str d.fst, AV.int IntKind.i64 d.snd.fst, AV.str d.snd.snd] :: List.map (mkV true File_tfs) l).all fun (y : AV) => decide (y.cells.length = 3)) (bK (true && bytesFit Try.prog 56 (0 + (AV.agg [AV.str d.fst, AV.int IntKind.i64 d.snd.fst, AV.str d.snd.snd] :: List.map (mkV true File_tfs) l).length)) (some { pan := false, res := AV.sref 2000000 0 0 (0 + (AV.agg [AV.str d.fst, AV.int IntKind.i64 d.snd.fst, AV.str d.snd.snd] :: List.map (mkV true File_tfs) l).length), out := [], new := [{ v := 0, k := BK.row, fz := false, sz := 3, es := AV.agg [AV.str d.fst, AV.int IntKind.i64 d.snd.fst, AV.str d.snd.snd] :: List.map (mkV true File_tfs) l }] }) none) none
theorem cfu_w (x : Bool) (d : File_T) (l : List File_T) : cfu x d l = cfu_r x d l := by kernel_rfl

theorem cfby : Try.prog.bytesOf 56 = 40 := by kernel_rfl
theorem cffit {n : Nat} (h : n ≤ 1000000) : bytesFit Try.prog 56 n = true := by
  simp only [bytesFit, cfby, decide_eq_true_eq]; omega
def cfA (d : Bool × List File_T) : List AV × List Blk := ([.slc d.1 (d.2.map (mkV true File_tfs))], [])
noncomputable def cfP : PK := PK.of cfA (fun d => 1 ≤ d.2.length ∧ d.2.length ≤ 100000) fun d => .leaf { pan := false, res := .sref newBase 0 0 (d.2.map (mkV true File_tfs)).length, out := [], new := [{ v := 0, k := .row, fz := false, sz := File_tfs.length, es := d.2.map (mkV true File_tfs) }] }
theorem cf_inj (d d' : Bool × List File_T) (h : cfA d = cfA d') : d = d' := by
  obtain ⟨x, l⟩ := d
  obtain ⟨x', l'⟩ := d'
  simp only [cfA, List.cons.injEq, Prod.mk.injEq, AV.slc.injEq, and_true, true_and] at h
  rw [h.1, map_inj (fs := File_tfs) rfl h.2]
noncomputable def cfPK : PKs := N0.add 71 cfP
theorem cfPK_ok : PKsOk Try.prog cfPK := PKsOk.of (cfg := cfg) N0_ok (fnOk N0_ok 21) 71 rfl LP0 fLoops_none cfA _ _ true (fun d => by show 0 ≤ 1000; decide) (by
  rintro ⟨x, l⟩ ⟨h1, h2⟩
  match l, h1, h2 with
  | d :: l, h1, h2 =>
    refine (cfu_w x d l).trans ?_
    unfold cfu_r
    rw [bK_pos (by simp [AV.cells, mkV, mkA, Tu.mk]), bK_pos (by
      rw [Bool.true_and]
      refine cffit ?_
      simp only [List.length_cons, List.length_map] at h2 ⊢
      omega)]
    simp only [Alt.val, List.map_cons, List.length_cons, List.length_map, Nat.zero_add]
    rfl)
noncomputable def cmu (x : Bool) (d : Mark_T) (l : List Mark_T) : Option Ret := unitQ Try.prog cfg cfPK LP0 true 72 [.slc x (mkV true Mark_tfs d :: l.map (mkV true Mark_tfs))] []
noncomputable def cmu_r (x : Bool) (d : Mark_T) (l : List Mark_T) : Option Ret :=
  bK ((AV.agg [AV.int IntKind.i64 d.fst, AV.int IntKind.i64 d.snd.fst, AV.int IntKind.i64 d.snd.snd.fst, AV.int IntKind.i64 d.snd.snd.snd] :: List.map (mkV true Mark_tfs) l).all fun (y : AV) => decide (y.cells.length = 4)) (bK (true && bytesFit Try.prog 40 (0 + (AV.agg [AV.int IntKind.i64 d.fst, AV.int IntKind.i64 d.snd.fst, AV.int IntKind.i64 d.snd.snd.fst, AV.int IntKind.i64 d.snd.snd.snd] :: List.map (mkV true Mark_tfs) l).length)) (some { pan := false, res := AV.sref 2000000 0 0 (0 + (AV.agg [AV.int IntKind.i64 d.fst, AV.int IntKind.i64 d.snd.fst, AV.int IntKind.i64 d.snd.snd.fst, AV.int IntKind.i64 d.snd.snd.snd] :: List.map (mkV true Mark_tfs) l).length), out := [], new := [{ v := 0, k := BK.row, fz := false, sz := 4, es := AV.agg [AV.int IntKind.i64 d.fst, AV.int IntKind.i64 d.snd.fst, AV.int IntKind.i64 d.snd.snd.fst, AV.int IntKind.i64 d.snd.snd.snd] :: List.map (mkV true Mark_tfs) l }] }) none) none
theorem cmu_w (x : Bool) (d : Mark_T) (l : List Mark_T) : cmu x d l = cmu_r x d l := by kernel_rfl

theorem cmby : Try.prog.bytesOf 40 = 32 := by kernel_rfl
theorem cmfit {n : Nat} (h : n ≤ 1000000) : bytesFit Try.prog 40 n = true := by
  simp only [bytesFit, cmby, decide_eq_true_eq]; omega
def cmA (d : Bool × List Mark_T) : List AV × List Blk := ([.slc d.1 (d.2.map (mkV true Mark_tfs))], [])
noncomputable def cmP : PK := PK.of cmA (fun d => 1 ≤ d.2.length ∧ d.2.length ≤ 100000) fun d => .leaf { pan := false, res := .sref newBase 0 0 (d.2.map (mkV true Mark_tfs)).length, out := [], new := [{ v := 0, k := .row, fz := false, sz := Mark_tfs.length, es := d.2.map (mkV true Mark_tfs) }] }
theorem cm_inj (d d' : Bool × List Mark_T) (h : cmA d = cmA d') : d = d' := by
  obtain ⟨x, l⟩ := d
  obtain ⟨x', l'⟩ := d'
  simp only [cmA, List.cons.injEq, Prod.mk.injEq, AV.slc.injEq, and_true, true_and] at h
  rw [h.1, map_inj (fs := Mark_tfs) rfl h.2]
noncomputable def cmPK : PKs := cfPK.add 72 cmP
theorem cmPK_ok : PKsOk Try.prog cmPK := PKsOk.of (cfg := cfg) cfPK_ok (fnOk cfPK_ok 21) 72 rfl LP0 fLoops_none cmA _ _ true (fun d => by show 0 ≤ 1000; decide) (by
  rintro ⟨x, l⟩ ⟨h1, h2⟩
  match l, h1, h2 with
  | d :: l, h1, h2 =>
    refine (cmu_w x d l).trans ?_
    unfold cmu_r
    rw [bK_pos (by simp [AV.cells, mkV, mkA, Tu.mk]), bK_pos (by
      rw [Bool.true_and]
      refine cmfit ?_
      simp only [List.length_cons, List.length_map] at h2 ⊢
      omega)]
    simp only [Alt.val, List.map_cons, List.length_cons, List.length_map, Nat.zero_add]
    rfl)
def cwHd (x : Bool) (l : List Write_T) (i : Int) : St := { fr := [(0, .slc x (l.map (mkV true Write_tfs))), (1, .fn 44 [] []), (7, .int .i64 ((l.map (mkV true Write_tfs)).length : Int)), (8, .int .i64 i)], bs := [], df := [] }
noncomputable def cw_s (x : Bool) (l : List Write_T) (i : Int) : Option (St ⊕ (Ex × St)) := stepK Try.prog cfg cmPK LP0 68 0 (cwHd x l i)
noncomputable def cw_s_r (x : Bool) (l : List Write_T) (i : Int) : Option (St ⊕ Ex × St) :=
  bK (decide (i < (↑(List.map (mkV true Write_tfs) l).length : Int))) (oK (elemAt true Write_tfs (List.map (mkV true Write_tfs) l) i) fun (d0 : Int × List UInt8) => oK (mayWS.dec [AV.agg [AV.int IntKind.i64 d0.fst, AV.str d0.snd]] []) fun (d1 : Int × List UInt8) => bK (!decide (mayB d1)) (some (Sum.inr (Ex.ret, { fr := [(4, AV.int IntKind.i64 i)], bs := [], df := [] }))) (some (Sum.inl { fr := [(0, AV.slc x (List.map (mkV true Write_tfs) l)), (1, AV.fn 44 [] []), (7, AV.int IntKind.i64 (↑(List.map (mkV true Write_tfs) l).length : Int)), (8, AV.int IntKind.i64 (IntKind.i64.wrap (i + 1)))], bs := [], df := [] }))) (some (Sum.inr (Ex.exit 0, { fr := [], bs := [], df := [] })))
theorem cw_s_w (x : Bool) (l : List Write_T) (i : Int) : cw_s x l i = cw_s_r x l i := by kernel_rfl

/-- Where the first is that may not be; below 0: nowhere. -/
def badN : List Write_T → Int → Int
  | [], _ => -1
  | w :: r, i => if mayB w then badN r (i + 1) else i
theorem badN_ge : ∀ (l : List Write_T) (i : Int), 0 ≤ i → badN l i = -1 ∨ (i ≤ badN l i ∧ badN l i < i + l.length)
  | [], i, _ => .inl rfl
  | f :: r, i, hi => by
    unfold badN
    split
    · rcases badN_ge r (i + 1) (by omega) with h | h
      · exact .inl h
      · right; simp; omega
    · right; simp; omega
theorem badN_all : ∀ (l : List Write_T) (i : Int), 0 ≤ i → (badN l i = -1 ↔ ∀ w ∈ l, mayB w)
  | [], i, _ => by simp [badN]
  | f :: r, i, hi => by
    have ih := badN_all r (i + 1) (by omega)
    unfold badN
    by_cases h : mayB f
    · rw [if_pos h, ih]; simp [h]
    · rw [if_neg h]
      constructor
      · intro e; omega
      · intro e; exact absurd (e f (by simp)) h
theorem loops68 : (loopsOf 0 (codeOf Try.prog 68)).map (·.1) = [0] := by kernel_rfl
theorem one68 : OneLoops Try.prog 68 := by unfold OneLoops; rw [loops68]; decide
theorem at68 : At 0 (codeOf Try.prog 68) 0 (.loop (bodyAt Try.prog 68 0)) := at_body one68 (by rw [loops68]; decide)
def cwRes (k : Int) : Ex × St := if 0 ≤ k then (.ret, { fr := [(4, .int .i64 k)], bs := [], df := [] }) else (.exit 0, { fr := [], bs := [], df := [] })
theorem cw_run (x : Bool) (l : List Write_T) (hl : l.length ≤ 100000) : ∀ (j i : Nat), i + j = l.length → ∀ (m : Nat), j < m → Runs' Try.prog cfg cmPK 68 0 m (cwHd x l i) (cwRes (badN (l.drop i) i))
  | 0, i, hi, m + 1, hm => by
    rw [List.drop_of_length_le (by omega)]
    refine Runs'.done (lp := LP0) LPok.none at68 ((cw_s_w x l i).trans ?_)
    unfold cw_s_r
    rw [bK_neg (by simp; omega)]
    rfl
  | j + 1, i, hi, m + 1, hm => by
    have hi' : i < l.length := by omega
    have e : l.drop i = l[i] :: l.drop (i + 1) := List.drop_eq_getElem_cons hi'
    have hg : l.getD (i : Int).toNat (0, []) = l[i] := by rw [Int.toNat_natCast, getD_at hi']
    rw [e]
    by_cases h1 : mayB l[i]
    · have ef : badN (l[i] :: l.drop (i + 1)) (i : Int) = badN (l.drop (i + 1)) ((i : Int) + 1) := if_pos h1
      rw [ef]
      refine Runs'.step (lp := LP0) LPok.none at68 ((cw_s_w x l i).trans ?_) (cw_run x l hl j (i + 1) (by omega) m (by omega))
      unfold cw_s_r
      rw [bK_pos (by simp; omega)]
      refine (oK_atD rfl (0, []) (by omega) (by simpa using hi')).trans ?_
      rw [hg]
      refine oK_fsq (Q := fun z => z = _) mayWS l[i] trivial ?_
      rw [bK_neg (by rw [decide_eq_true h1]; rfl), w64 (by omega) (by omega)]
      rfl
    · have ef : badN (l[i] :: l.drop (i + 1)) (i : Int) = (i : Int) := if_neg h1
      rw [ef]
      refine Runs'.done (lp := LP0) LPok.none at68 ((cw_s_w x l i).trans ?_)
      unfold cw_s_r cwRes
      rw [bK_pos (by simp; omega)]
      refine (oK_atD rfl (0, []) (by omega) (by simpa using hi')).trans ?_
      rw [hg]
      refine oK_fsq (Q := fun z => z = _) mayWS l[i] trivial ?_
      rw [bK_pos (by rw [decide_eq_false h1]; rfl), if_pos (by omega)]
abbrev CwD : Type := Bool × List Write_T
def cwH (d : CwD) : St := cwHd d.1 d.2 0
/-- Where the first is that may not be. -/
def badF (d : CwD) : Int := badN d.2 0
noncomputable def cwL : LP := LP.of (D := CwD) cwH (fun d => d.2.length ≤ 100000) fun d => .ite (decide (0 ≤ badF d)) (.leaf (.ret, { fr := [(4, .int .i64 (badF d))], bs := [], df := [] })) (.leaf (.exit 0, { fr := [], bs := [], df := [] }))
noncomputable def LPcw : LPs := LPs.add LP0 68 0 cwL
theorem LPcw_ok : LPok Try.prog cfg cmPK LPcw 68 := LPok.addH LPok.none one68 (by
  intro d h
  have hr := cw_run d.1 d.2 h d.2.length 0 (by omega) rounds (by have : d.2.length ≤ 100000 := h; simp only [rounds]; omega)
  rw [List.drop_zero] at hr
  have hr' : Runs' Try.prog cfg cmPK 68 0 rounds (cwH d) (cwRes (badF d)) := hr
  unfold cwRes at hr'
  simp only [Alt.val]
  by_cases hq : 0 ≤ badF d
  · rw [if_pos hq] at hr'; rw [decide_eq_true hq]; exact hr'
  · rw [if_neg hq] at hr'; rw [decide_eq_false hq]; exact hr')
theorem cwH_inj (d d' : CwD) (h : cwH d = cwH d') : d = d' := by
  obtain ⟨x, l⟩ := d
  obtain ⟨x', l'⟩ := d'
  simp only [cwH, cwHd, St.mk.injEq, List.cons.injEq, Prod.mk.injEq, AV.slc.injEq, and_true, true_and] at h
  rw [h.1.1, map_inj (fs := Write_tfs) rfl h.1.2]
def cwArg (d : CwD) : List AV × List Blk := ([.slc d.1 (d.2.map (mkV true Write_tfs)), .fn 44 [] []], [])
noncomputable def cwu (x : Bool) (l : List Write_T) : Option Ret := unitQ Try.prog cfg cmPK LPcw false 68 (cwArg (x, l)).1 (cwArg (x, l)).2
noncomputable def cwu_r (x : Bool) (l : List Write_T) : Option Ret :=
  oK (cwL.dec { fr := [(0, AV.slc x (List.map (mkV true Write_tfs) l)), (1, AV.fn 44 [] []), (7, AV.int IntKind.i64 (↑(List.map (mkV true Write_tfs) l).length : Int)), (8, AV.int IntKind.i64 0)], bs := [], df := [] }) fun (d0 : Bool × List (Int × List UInt8)) => bK (decide (0 ≤ badF d0)) (some { pan := false, res := AV.int IntKind.i64 (badF d0), out := [], new := [] }) (some { pan := false, res := AV.int IntKind.i64 (-1), out := [], new := [] })
theorem cwu_w (x : Bool) (l : List Write_T) : cwu x l = cwu_r x l := by kernel_rfl

noncomputable def cwPK : PK := PK.of (D := CwD) cwArg (fun d => d.2.length ≤ 100000) fun d => .leaf { pan := false, res := .int .i64 (badF d), out := [], new := [] }
noncomputable def N1 : PKs := cmPK.add 68 cwPK
theorem N1_ok : PKsOk Try.prog N1 := PKsOk.of (cfg := cfg) cmPK_ok (fnOk cmPK_ok 21) 68 rfl LPcw LPcw_ok.loops cwArg _ _ false (fun d => by show 0 ≤ 1000; decide) (by
  rintro ⟨x, l⟩ h
  refine (cwu_w x l).trans ?_
  unfold cwu_r
  refine oK_lpq (Q := fun z => z = _) cwH_inj (x, l) h ?_
  refine bK_i (fun _ => rfl) (fun c => ?_)
  rcases badN_ge l 0 (by omega) with h1 | h1
  · have e : badF (x, l) = -1 := h1
    simp only [Alt.val, e]
  · exact absurd (show 0 ≤ badF (x, l) from h1.1) c)
theorem cwArg_inj (d d' : CwD) (h : cwArg d = cwArg d') : d = d' := by
  obtain ⟨x, l⟩ := d
  obtain ⟨x', l'⟩ := d'
  simp only [cwArg, List.cons.injEq, Prod.mk.injEq, AV.slc.injEq, and_true, true_and] at h
  rw [h.1, map_inj (fs := Write_tfs) rfl h.2]
abbrev mput_id : Nat := 65
abbrev mput_sh : Shp := [none, none, some 4]
abbrev mput_fs : List Lf := [.fl true Mark_tfs, .fi .i64, .fi .i64, .fi .i64, .fi .i64, .fi .i64]
abbrev mput_rsh : Shp := [none]
abbrev mput_rfs : List Lf := [.fl true Mark_tfs]
noncomputable def mput_r (l_x : Bool) (l : List Mark_T) (client : Int) (m_Seq : Int) (m_Err : Int) (m_File : Int) (m_Ver : Int) : Option Ret :=
  oK (cmP.dec [AV.slc l_x (List.map (mkV true Mark_tfs) l)] []) fun (d0 : Bool × List (Int × Int × Int × Int)) =>
  bK (decide (0 + (List.map (mkV true Mark_tfs) d0.snd).length ≤ (List.map (mkV true Mark_tfs) d0.snd).length))
    (bK (decide (1 ≤ client))
      (bK (decide (client ≤ (↑(List.take (List.map (mkV true Mark_tfs) d0.snd).length (List.drop 0 (List.map (mkV true Mark_tfs) d0.snd))).length : Int))) (bK (decide (0 ≤ IntKind.i64.wrap (client - 1) ∧ IntKind.i64.wrap (client - 1) < (↑(List.map (mkV true Mark_tfs) d0.snd).length : Int))) (bK (decide (0 + (IntKind.i64.wrap (client - 1)).toNat < (List.map (mkV true Mark_tfs) d0.snd).length)) (oK (ldRow refused_tfs (List.map (mkV true Mark_tfs) d0.snd) (0 + (IntKind.i64.wrap (client - 1)).toNat) 0) fun (d1 : Int) => bK (decide (d1 < m_Seq)) (bK (decide (0 ≤ IntKind.i64.wrap (client - 1) ∧ IntKind.i64.wrap (client - 1) < (↑(List.map (mkV true Mark_tfs) d0.snd).length : Int))) (oK (stRow (List.map (mkV true Mark_tfs) d0.snd) (0 + (IntKind.i64.wrap (client - 1)).toNat) 0 [AV.int IntKind.i64 m_Seq, AV.int IntKind.i64 m_Err, AV.int IntKind.i64 m_File, AV.int IntKind.i64 m_Ver]) fun (d2 : List AV) => some { pan := false, res := AV.sref 2000000 0 0 (List.map (mkV true Mark_tfs) d0.snd).length, out := [], new := [{ v := 0, k := BK.row, fz := false, sz := 4, es := d2 }] }) none) (some { pan := false, res := AV.sref 2000000 0 0 (List.map (mkV true Mark_tfs) d0.snd).length, out := [], new := [{ v := 0, k := BK.row, fz := false, sz := 4, es := List.map (mkV true Mark_tfs) d0.snd }] })) none) none)
        (some { pan := false, res := AV.sref 2000000 0 0 (List.map (mkV true Mark_tfs) d0.snd).length, out := [], new := [{ v := 0, k := BK.row, fz := false, sz := 4, es := List.map (mkV true Mark_tfs) d0.snd }] }))
      (some { pan := false, res := AV.sref 2000000 0 0 (List.map (mkV true Mark_tfs) d0.snd).length, out := [], new := [{ v := 0, k := BK.row, fz := false, sz := 4, es := List.map (mkV true Mark_tfs) d0.snd }] }))
    none
theorem mput_w (l_x : Bool) (l : List Mark_T) (client : Int) (m_Seq : Int) (m_Err : Int) (m_File : Int) (m_Ver : Int) : unitQ Try.prog cfg N1 LP0 true 65 (groupA mput_sh (Tu.mk mput_fs ((l_x, l), client, m_Seq, m_Err, m_File, m_Ver))) [] = mput_r l_x l client m_Seq m_Err m_File m_Ver := by kernel_rfl

theorem ldSeqM (l : List Mark_T) (i : Nat) (h : i < l.length) : ldRow refused_tfs (l.map (mkV true Mark_tfs)) i 0 = some (l.getD i zM).1 := by
  simp [ldRow, h, ldCells, mkV, mkA, AV.cells, Tu.mk, Lf.mk, Tu.dec, Lf.dec, List.getD, zM]
abbrev MpD : Type := (Bool × List Mark_T) × Int × Mark_T
def mpA (d : MpD) : List AV × List Blk := ([.slc d.1.1 (d.1.2.map (mkV true Mark_tfs)), .int .i64 d.2.1, .agg (Tu.mk Mark_tfs d.2.2)], [])
theorem mpA_inj (d d' : MpD) (h : mpA d = mpA d') : d = d' := by
  obtain ⟨⟨x, l⟩, c, m⟩ := d
  obtain ⟨⟨x', l'⟩, c', m'⟩ := d'
  simp only [mpA, List.cons.injEq, Prod.mk.injEq, AV.slc.injEq, AV.int.injEq, AV.agg.injEq, and_true, true_and] at h
  obtain ⟨⟨h1, h2⟩, h3, h4⟩ := h
  rw [h1, map_inj (fs := Mark_tfs) rfl h2, h3, mk_inj (fs := Mark_tfs) rfl h4]
/-- The marks behind another one. -/
def putLF (d : MpD) : List Mark_T := putL d.1.2 d.2.1 d.2.2
noncomputable def mpP : PK := PK.of mpA (fun d => 1 ≤ d.1.2.length ∧ d.1.2.length ≤ 100000) fun d => .leaf { pan := false, res := .sref newBase 0 0 ((putLF d).map (mkV true Mark_tfs)).length, out := [], new := [{ v := 0, k := .row, fz := false, sz := 4, es := (putLF d).map (mkV true Mark_tfs) }] }
noncomputable def N2 : PKs := N1.add 65 mpP
theorem N2_ok : PKsOk Try.prog N2 := PKsOk.of (cfg := cfg) N1_ok (fnOk N1_ok 21) 65 rfl LP0 fLoops_none mpA _ _ true (fun d => by show 0 ≤ 1000; decide) (by
  rintro ⟨⟨x, L⟩, client, m_Seq, m_Err, m_File, m_Ver⟩ ⟨h1, h2⟩
  simp only at h1 h2
  refine (mput_w x L client m_Seq m_Err m_File m_Ver).trans ?_
  unfold mput_r
  refine oK_pkq (Q := fun z => z = _) cm_inj (x, L) ⟨h1, h2⟩ ?_
  have hp : putLF ((x, L), client, m_Seq, m_Err, m_File, m_Ver) = putL L client (m_Seq, m_Err, m_File, m_Ver) := rfl
  simp only [Alt.val, hp, Nat.zero_add, List.length_map, putL_len]
  rw [bK_pos (by simp)]
  have no : ∀ z, ¬ (1 ≤ client ∧ client ≤ (L.length : Int) ∧ (L.getD (client - 1).toNat (0, 0, 0, 0)).1 < m_Seq) → z = some ({ pan := false, res := .sref 2000000 0 0 L.length, out := [], new := [{ v := 0, k := .row, fz := false, sz := 4, es := L.map (mkV true Mark_tfs) }] } : Ret) → z = some ({ pan := false, res := .sref newBase 0 0 L.length, out := [], new := [{ v := 0, k := .row, fz := false, sz := 4, es := (putL L client (m_Seq, m_Err, m_File, m_Ver)).map (mkV true Mark_tfs) }] } : Ret) := by
    intro z hn hz
    rw [hz]
    unfold putL
    rw [if_neg hn]
    rfl
  refine bK_i (fun c1 => ?_) (fun c1 => no _ (fun hh => c1 hh.1) rfl)
  refine bK_i (fun c2 => ?_) (fun c2 => no _ (fun hh => c2 (by simpa using hh.2.1)) rfl)
  have c2' : client ≤ (L.length : Int) := by simpa using c2
  have hi : (client - 1).toNat < L.length := by omega
  rw [w64 (n := client - 1) (by omega) (by omega), bK_pos (by simp; omega), bK_pos (by simp; omega)]
  refine (oK_pos (ldSeqM L _ hi)).trans ?_
  refine bK_i (fun c3 => ?_) (fun c3 => no _ (fun hh => c3 hh.2.2) rfl)
  rw [bK_pos (by simp; omega)]
  refine (oK_pos (stMark L _ hi (m_Seq, m_Err, m_File, m_Ver))).trans ?_
  unfold putL
  rw [if_pos ⟨c1, c2', c3⟩]
  rfl)
abbrev openP_id : Nat := 14
abbrev openP_sh : Shp := [some 3, none, none, none]
abbrev openP_fs : List Lf := [.fl true File_tfs, .fl true Mark_tfs, .fi .i64, .fi .i64, .fi .i64, .fs]
abbrev openP_rsh : Shp := [some 3, some 4]
abbrev openP_rfs : List Lf := [.fl true File_tfs, .fl true Mark_tfs, .fi .i64, .fi .i64, .fi .i64, .fi .i64, .fi .i64]
noncomputable def openP_r (s_Files_x : Bool) (s_Files : List File_T) (s_Marks_x : Bool) (s_Marks : List Mark_T) (s_Epoch : Int) (client : Int) (seq : Int) (name : List UInt8) : Option Ret :=
  oK (cfP.dec [AV.slc s_Files_x (List.map (mkV true File_tfs) s_Files)] []) fun (d0 : Bool × List (List UInt8 × Int × List UInt8)) =>
  oK (cmP.dec [AV.slc s_Marks_x (List.map (mkV true Mark_tfs) s_Marks)] []) fun (d1 : Bool × List (Int × Int × Int × Int)) =>
    oK (mayS.dec [AV.str name] []) fun (d2 : List UInt8) =>
      bK (!D8mayN d2) (oK (cfP.dec [AV.slc s_Files_x (List.map (mkV true File_tfs) s_Files)] []) fun (d3 : Bool × List (List UInt8 × Int × List UInt8)) => oK (cmP.dec [AV.slc s_Marks_x (List.map (mkV true Mark_tfs) s_Marks)] []) fun (d4 : Bool × List (Int × Int × Int × Int)) => bK (decide (0 + (List.map (mkV true Mark_tfs) d4.snd).length ≤ (List.map (mkV true Mark_tfs) d4.snd).length)) (oK (mpP.dec [AV.slc false (List.take (List.map (mkV true Mark_tfs) d4.snd).length (List.drop 0 (List.map (mkV true Mark_tfs) d4.snd))), AV.int IntKind.i64 client, AV.agg [AV.int IntKind.i64 seq, AV.int IntKind.i64 1, AV.int IntKind.i64 0, AV.int IntKind.i64 0]] []) fun (d5 : (Bool × List (Int × Int × Int × Int)) × Int × Int × Int × Int × Int) => bK (decide (0 + (List.map (mkV true Mark_tfs) (putLF d5)).length ≤ (List.map (mkV true Mark_tfs) (putLF d5)).length)) (bK (decide (0 + (List.map (mkV true File_tfs) d3.snd).length ≤ (List.map (mkV true File_tfs) d3.snd).length)) (some { pan := false, res := AV.tup [AV.agg [AV.slc false (List.take (List.map (mkV true File_tfs) d3.snd).length (List.drop 0 (List.map (mkV true File_tfs) d3.snd))), AV.slc false (List.take (List.map (mkV true Mark_tfs) (putLF d5)).length (List.drop 0 (List.map (mkV true Mark_tfs) (putLF d5)))), AV.int IntKind.i64 s_Epoch], AV.agg [AV.int IntKind.i64 seq, AV.int IntKind.i64 1, AV.int IntKind.i64 0, AV.int IntKind.i64 0]], out := [], new := [] }) none) none) none)
        (bK (decide (0 + (List.map (mkV true File_tfs) d0.snd).length ≤ (List.map (mkV true File_tfs) d0.snd).length))
          (oK (findDS.dec [AV.slc false (List.take (List.map (mkV true File_tfs) d0.snd).length (List.drop 0 (List.map (mkV true File_tfs) d0.snd))), AV.str name] []) fun (d6 : (Bool × List (List UInt8 × Int × List UInt8)) × List UInt8) =>
            bK (!(fdF (d6.fst.fst, d6.fst.snd, d6.snd)).snd)
              (bK (decide (0 + (List.map (mkV true File_tfs) d0.snd).length ≤ (List.map (mkV true File_tfs) d0.snd).length))
                (oK (roomDS.dec [AV.slc false (List.take (List.map (mkV true File_tfs) d0.snd).length (List.drop 0 (List.map (mkV true File_tfs) d0.snd)))] []) fun (d7 : Bool × List (List UInt8 × Int × List UInt8)) =>
                  bK (!decide (0 ≤ D8posF (d7.fst, d7.snd, []))) (oK (cfP.dec [AV.slc s_Files_x (List.map (mkV true File_tfs) s_Files)] []) fun (d8 : Bool × List (List UInt8 × Int × List UInt8)) => oK (cmP.dec [AV.slc s_Marks_x (List.map (mkV true Mark_tfs) s_Marks)] []) fun (d9 : Bool × List (Int × Int × Int × Int)) => bK (decide (0 + (List.map (mkV true Mark_tfs) d9.snd).length ≤ (List.map (mkV true Mark_tfs) d9.snd).length)) (oK (mpP.dec [AV.slc false (List.take (List.map (mkV true Mark_tfs) d9.snd).length (List.drop 0 (List.map (mkV true Mark_tfs) d9.snd))), AV.int IntKind.i64 client, AV.agg [AV.int IntKind.i64 seq, AV.int IntKind.i64 3, AV.int IntKind.i64 0, AV.int IntKind.i64 0]] []) fun (d10 : (Bool × List (Int × Int × Int × Int)) × Int × Int × Int × Int × Int) => bK (decide (0 + (List.map (mkV true Mark_tfs) (putLF d10)).length ≤ (List.map (mkV true Mark_tfs) (putLF d10)).length)) (bK (decide (0 + (List.map (mkV true File_tfs) d8.snd).length ≤ (List.map (mkV true File_tfs) d8.snd).length)) (some { pan := false, res := AV.tup [AV.agg [AV.slc false (List.take (List.map (mkV true File_tfs) d8.snd).length (List.drop 0 (List.map (mkV true File_tfs) d8.snd))), AV.slc false (List.take (List.map (mkV true Mark_tfs) (putLF d10)).length (List.drop 0 (List.map (mkV true Mark_tfs) (putLF d10)))), AV.int IntKind.i64 s_Epoch], AV.agg [AV.int IntKind.i64 seq, AV.int IntKind.i64 3, AV.int IntKind.i64 0, AV.int IntKind.i64 0]], out := [], new := [] }) none) none) none)
                    (bK (decide (0 ≤ IntKind.i64.wrap (D8posF (d7.fst, d7.snd, []) + 1 - 1) ∧ IntKind.i64.wrap (D8posF (d7.fst, d7.snd, []) + 1 - 1) < (↑(List.map (mkV true File_tfs) d0.snd).length : Int)))
                      (oK (stRow (List.map (mkV true File_tfs) d0.snd) (0 + (IntKind.i64.wrap (D8posF (d7.fst, d7.snd, []) + 1 - 1)).toNat) 0 [AV.str name, AV.int IntKind.i64 1, AV.str []]) fun (d11 : List AV) =>
                        bK (decide (0 ≤ IntKind.i64.wrap (D8posF (d7.fst, d7.snd, []) + 1 - 1) ∧ IntKind.i64.wrap (D8posF (d7.fst, d7.snd, []) + 1 - 1) < (↑(List.map (mkV true File_tfs) d0.snd).length : Int)))
                          (bK (decide (0 + (IntKind.i64.wrap (D8posF (d7.fst, d7.snd, []) + 1 - 1)).toNat < d11.length)) (oK (ldRow refused_tfs d11 (0 + (IntKind.i64.wrap (D8posF (d7.fst, d7.snd, []) + 1 - 1)).toNat) 1) fun (d12 : Int) => bK (decide (0 + (List.map (mkV true Mark_tfs) d1.snd).length ≤ (List.map (mkV true Mark_tfs) d1.snd).length)) (oK (mpP.dec [AV.slc false (List.take (List.map (mkV true Mark_tfs) d1.snd).length (List.drop 0 (List.map (mkV true Mark_tfs) d1.snd))), AV.int IntKind.i64 client, AV.agg [AV.int IntKind.i64 seq, AV.int IntKind.i64 0, AV.int IntKind.i64 (D8posF (d7.fst, d7.snd, []) + 1), AV.int IntKind.i64 d12]] []) fun (d13 : (Bool × List (Int × Int × Int × Int)) × Int × Int × Int × Int × Int) => bK (decide (0 + (List.map (mkV true Mark_tfs) (putLF d13)).length ≤ (List.map (mkV true Mark_tfs) (putLF d13)).length)) (bK (decide (0 + (List.map (mkV true File_tfs) d0.snd).length ≤ d11.length)) (some { pan := false, res := AV.tup [AV.agg [AV.slc false (List.take (List.map (mkV true File_tfs) d0.snd).length (List.drop 0 d11)), AV.slc false (List.take (List.map (mkV true Mark_tfs) (putLF d13)).length (List.drop 0 (List.map (mkV true Mark_tfs) (putLF d13)))), AV.int IntKind.i64 s_Epoch], AV.agg [AV.int IntKind.i64 seq, AV.int IntKind.i64 0, AV.int IntKind.i64 (D8posF (d7.fst, d7.snd, []) + 1), AV.int IntKind.i64 d12]], out := [], new := [] }) none) none) none) none) none)
                      none))
                none)
              (bK (decide (0 ≤ IntKind.i64.wrap ((fdF (d6.fst.fst, d6.fst.snd, d6.snd)).fst - 1) ∧ IntKind.i64.wrap ((fdF (d6.fst.fst, d6.fst.snd, d6.snd)).fst - 1) < (↑(List.map (mkV true File_tfs) d0.snd).length : Int)))
                (bK (decide (0 + (IntKind.i64.wrap ((fdF (d6.fst.fst, d6.fst.snd, d6.snd)).fst - 1)).toNat < (List.map (mkV true File_tfs) d0.snd).length))
                  (oK (ldRow refused_tfs (List.map (mkV true File_tfs) d0.snd) (0 + (IntKind.i64.wrap ((fdF (d6.fst.fst, d6.fst.snd, d6.snd)).fst - 1)).toNat) 1) fun (d14 : Int) => bK (decide (0 + (List.map (mkV true Mark_tfs) d1.snd).length ≤ (List.map (mkV true Mark_tfs) d1.snd).length)) (oK (mpP.dec [AV.slc false (List.take (List.map (mkV true Mark_tfs) d1.snd).length (List.drop 0 (List.map (mkV true Mark_tfs) d1.snd))), AV.int IntKind.i64 client, AV.agg [AV.int IntKind.i64 seq, AV.int IntKind.i64 0, AV.int IntKind.i64 (fdF (d6.fst.fst, d6.fst.snd, d6.snd)).fst, AV.int IntKind.i64 d14]] []) fun (d15 : (Bool × List (Int × Int × Int × Int)) × Int × Int × Int × Int × Int) => bK (decide (0 + (List.map (mkV true Mark_tfs) (putLF d15)).length ≤ (List.map (mkV true Mark_tfs) (putLF d15)).length)) (bK (decide (0 + (List.map (mkV true File_tfs) d0.snd).length ≤ (List.map (mkV true File_tfs) d0.snd).length)) (some { pan := false, res := AV.tup [AV.agg [AV.slc false (List.take (List.map (mkV true File_tfs) d0.snd).length (List.drop 0 (List.map (mkV true File_tfs) d0.snd))), AV.slc false (List.take (List.map (mkV true Mark_tfs) (putLF d15)).length (List.drop 0 (List.map (mkV true Mark_tfs) (putLF d15)))), AV.int IntKind.i64 s_Epoch], AV.agg [AV.int IntKind.i64 seq, AV.int IntKind.i64 0, AV.int IntKind.i64 (fdF (d6.fst.fst, d6.fst.snd, d6.snd)).fst, AV.int IntKind.i64 d14]], out := [], new := [] }) none) none) none) none)
                none))
          none)
theorem openP_w (s_Files_x : Bool) (s_Files : List File_T) (s_Marks_x : Bool) (s_Marks : List Mark_T) (s_Epoch : Int) (client : Int) (seq : Int) (name : List UInt8) : unitQ Try.prog cfg N2 LP0 false 14 (groupA openP_sh (Tu.mk openP_fs ((s_Files_x, s_Files), (s_Marks_x, s_Marks), s_Epoch, client, seq, name))) [] = openP_r s_Files_x s_Files s_Marks_x s_Marks s_Epoch client seq name := by kernel_rfl

abbrev flushP_id : Nat := 16
abbrev flushP_sh : Shp := [some 3, none, none, none, none]
abbrev flushP_fs : List Lf := [.fl true File_tfs, .fl true Mark_tfs, .fi .i64, .fi .i64, .fi .i64, .fi .i64, .fl true Write_tfs]
abbrev flushP_rsh : Shp := [some 3, some 4]
abbrev flushP_rfs : List Lf := [.fl true File_tfs, .fl true Mark_tfs, .fi .i64, .fi .i64, .fi .i64, .fi .i64, .fi .i64]
noncomputable def flushP_r (s_Files_x : Bool) (s_Files : List File_T) (s_Marks_x : Bool) (s_Marks : List Mark_T) (s_Epoch : Int) (client : Int) (seq : Int) (n : Int) (l_x : Bool) (l : List Write_T) : Option Ret :=
  oK (cfP.dec [AV.slc s_Files_x (List.map (mkV true File_tfs) s_Files)] []) fun (d0 : Bool × List (List UInt8 × Int × List UInt8)) =>
  oK (cmP.dec [AV.slc s_Marks_x (List.map (mkV true Mark_tfs) s_Marks)] []) fun (d1 : Bool × List (Int × Int × Int × Int)) =>
    bK (decide (n < 1)) (oK (cfP.dec [AV.slc s_Files_x (List.map (mkV true File_tfs) s_Files)] []) fun (d2 : Bool × List (List UInt8 × Int × List UInt8)) => oK (cmP.dec [AV.slc s_Marks_x (List.map (mkV true Mark_tfs) s_Marks)] []) fun (d3 : Bool × List (Int × Int × Int × Int)) => bK (decide (0 + (List.map (mkV true Mark_tfs) d3.snd).length ≤ (List.map (mkV true Mark_tfs) d3.snd).length)) (oK (mpP.dec [AV.slc false (List.take (List.map (mkV true Mark_tfs) d3.snd).length (List.drop 0 (List.map (mkV true Mark_tfs) d3.snd))), AV.int IntKind.i64 client, AV.agg [AV.int IntKind.i64 seq, AV.int IntKind.i64 2, AV.int IntKind.i64 0, AV.int IntKind.i64 0]] []) fun (d4 : (Bool × List (Int × Int × Int × Int)) × Int × Int × Int × Int × Int) => bK (decide (0 + (List.map (mkV true Mark_tfs) (putLF d4)).length ≤ (List.map (mkV true Mark_tfs) (putLF d4)).length)) (bK (decide (0 + (List.map (mkV true File_tfs) d2.snd).length ≤ (List.map (mkV true File_tfs) d2.snd).length)) (some { pan := false, res := AV.tup [AV.agg [AV.slc false (List.take (List.map (mkV true File_tfs) d2.snd).length (List.drop 0 (List.map (mkV true File_tfs) d2.snd))), AV.slc false (List.take (List.map (mkV true Mark_tfs) (putLF d4)).length (List.drop 0 (List.map (mkV true Mark_tfs) (putLF d4)))), AV.int IntKind.i64 s_Epoch], AV.agg [AV.int IntKind.i64 seq, AV.int IntKind.i64 2, AV.int IntKind.i64 0, AV.int IntKind.i64 0]], out := [], new := [] }) none) none) none)
      (bK (decide (0 + (List.map (mkV true File_tfs) d0.snd).length ≤ (List.map (mkV true File_tfs) d0.snd).length))
        (bK (decide ((↑(List.map (mkV true File_tfs) d0.snd).length : Int) < n)) (oK (cfP.dec [AV.slc s_Files_x (List.map (mkV true File_tfs) s_Files)] []) fun (d5 : Bool × List (List UInt8 × Int × List UInt8)) => oK (cmP.dec [AV.slc s_Marks_x (List.map (mkV true Mark_tfs) s_Marks)] []) fun (d6 : Bool × List (Int × Int × Int × Int)) => bK (decide (0 + (List.map (mkV true Mark_tfs) d6.snd).length ≤ (List.map (mkV true Mark_tfs) d6.snd).length)) (oK (mpP.dec [AV.slc false (List.take (List.map (mkV true Mark_tfs) d6.snd).length (List.drop 0 (List.map (mkV true Mark_tfs) d6.snd))), AV.int IntKind.i64 client, AV.agg [AV.int IntKind.i64 seq, AV.int IntKind.i64 2, AV.int IntKind.i64 0, AV.int IntKind.i64 0]] []) fun (d7 : (Bool × List (Int × Int × Int × Int)) × Int × Int × Int × Int × Int) => bK (decide (0 + (List.map (mkV true Mark_tfs) (putLF d7)).length ≤ (List.map (mkV true Mark_tfs) (putLF d7)).length)) (bK (decide (0 + (List.map (mkV true File_tfs) d5.snd).length ≤ (List.map (mkV true File_tfs) d5.snd).length)) (some { pan := false, res := AV.tup [AV.agg [AV.slc false (List.take (List.map (mkV true File_tfs) d5.snd).length (List.drop 0 (List.map (mkV true File_tfs) d5.snd))), AV.slc false (List.take (List.map (mkV true Mark_tfs) (putLF d7)).length (List.drop 0 (List.map (mkV true Mark_tfs) (putLF d7)))), AV.int IntKind.i64 s_Epoch], AV.agg [AV.int IntKind.i64 seq, AV.int IntKind.i64 2, AV.int IntKind.i64 0, AV.int IntKind.i64 0]], out := [], new := [] }) none) none) none)
          (bK (decide (0 ≤ IntKind.i64.wrap (n - 1) ∧ IntKind.i64.wrap (n - 1) < (↑(List.map (mkV true File_tfs) d0.snd).length : Int)))
            (bK (decide (0 + (IntKind.i64.wrap (n - 1)).toNat < (List.map (mkV true File_tfs) d0.snd).length))
              (oK (ldRow [Lf.fs] (List.map (mkV true File_tfs) d0.snd) (0 + (IntKind.i64.wrap (n - 1)).toNat) 0) fun (d8 : List UInt8) =>
                bK (decide (d8 = [])) (oK (cfP.dec [AV.slc s_Files_x (List.map (mkV true File_tfs) s_Files)] []) fun (d9 : Bool × List (List UInt8 × Int × List UInt8)) => oK (cmP.dec [AV.slc s_Marks_x (List.map (mkV true Mark_tfs) s_Marks)] []) fun (d10 : Bool × List (Int × Int × Int × Int)) => bK (decide (0 + (List.map (mkV true Mark_tfs) d10.snd).length ≤ (List.map (mkV true Mark_tfs) d10.snd).length)) (oK (mpP.dec [AV.slc false (List.take (List.map (mkV true Mark_tfs) d10.snd).length (List.drop 0 (List.map (mkV true Mark_tfs) d10.snd))), AV.int IntKind.i64 client, AV.agg [AV.int IntKind.i64 seq, AV.int IntKind.i64 2, AV.int IntKind.i64 0, AV.int IntKind.i64 0]] []) fun (d11 : (Bool × List (Int × Int × Int × Int)) × Int × Int × Int × Int × Int) => bK (decide (0 + (List.map (mkV true Mark_tfs) (putLF d11)).length ≤ (List.map (mkV true Mark_tfs) (putLF d11)).length)) (bK (decide (0 + (List.map (mkV true File_tfs) d9.snd).length ≤ (List.map (mkV true File_tfs) d9.snd).length)) (some { pan := false, res := AV.tup [AV.agg [AV.slc false (List.take (List.map (mkV true File_tfs) d9.snd).length (List.drop 0 (List.map (mkV true File_tfs) d9.snd))), AV.slc false (List.take (List.map (mkV true Mark_tfs) (putLF d11)).length (List.drop 0 (List.map (mkV true Mark_tfs) (putLF d11)))), AV.int IntKind.i64 s_Epoch], AV.agg [AV.int IntKind.i64 seq, AV.int IntKind.i64 2, AV.int IntKind.i64 0, AV.int IntKind.i64 0]], out := [], new := [] }) none) none) none)
                  (bK (decide (0 ≤ IntKind.i64.wrap (n - 1) ∧ IntKind.i64.wrap (n - 1) < (↑(List.map (mkV true File_tfs) d0.snd).length : Int)))
                    (bK (decide ((↑(List.map (mkV true Write_tfs) l).length : Int) = 0))
                      (oK (cfP.dec [AV.slc s_Files_x (List.map (mkV true File_tfs) s_Files)] []) fun (d12 : Bool × List (List UInt8 × Int × List UInt8)) => oK (cmP.dec [AV.slc s_Marks_x (List.map (mkV true Mark_tfs) s_Marks)] []) fun (d13 : Bool × List (Int × Int × Int × Int)) => bK (decide (0 + (List.map (mkV true Mark_tfs) d13.snd).length ≤ (List.map (mkV true Mark_tfs) d13.snd).length)) (oK (mpP.dec [AV.slc false (List.take (List.map (mkV true Mark_tfs) d13.snd).length (List.drop 0 (List.map (mkV true Mark_tfs) d13.snd))), AV.int IntKind.i64 client, AV.agg [AV.int IntKind.i64 seq, AV.int IntKind.i64 1, AV.int IntKind.i64 0, AV.int IntKind.i64 0]] []) fun (d14 : (Bool × List (Int × Int × Int × Int)) × Int × Int × Int × Int × Int) => bK (decide (0 + (List.map (mkV true Mark_tfs) (putLF d14)).length ≤ (List.map (mkV true Mark_tfs) (putLF d14)).length)) (bK (decide (0 + (List.map (mkV true File_tfs) d12.snd).length ≤ (List.map (mkV true File_tfs) d12.snd).length)) (some { pan := false, res := AV.tup [AV.agg [AV.slc false (List.take (List.map (mkV true File_tfs) d12.snd).length (List.drop 0 (List.map (mkV true File_tfs) d12.snd))), AV.slc false (List.take (List.map (mkV true Mark_tfs) (putLF d14)).length (List.drop 0 (List.map (mkV true Mark_tfs) (putLF d14)))), AV.int IntKind.i64 s_Epoch], AV.agg [AV.int IntKind.i64 seq, AV.int IntKind.i64 1, AV.int IntKind.i64 0, AV.int IntKind.i64 0]], out := [], new := [] }) none) none) none)
                      (bK (decide (5 < (↑(List.map (mkV true Write_tfs) l).length : Int)))
                        (oK (cfP.dec [AV.slc s_Files_x (List.map (mkV true File_tfs) s_Files)] []) fun (d15 : Bool × List (List UInt8 × Int × List UInt8)) => oK (cmP.dec [AV.slc s_Marks_x (List.map (mkV true Mark_tfs) s_Marks)] []) fun (d16 : Bool × List (Int × Int × Int × Int)) => bK (decide (0 + (List.map (mkV true Mark_tfs) d16.snd).length ≤ (List.map (mkV true Mark_tfs) d16.snd).length)) (oK (mpP.dec [AV.slc false (List.take (List.map (mkV true Mark_tfs) d16.snd).length (List.drop 0 (List.map (mkV true Mark_tfs) d16.snd))), AV.int IntKind.i64 client, AV.agg [AV.int IntKind.i64 seq, AV.int IntKind.i64 1, AV.int IntKind.i64 0, AV.int IntKind.i64 0]] []) fun (d17 : (Bool × List (Int × Int × Int × Int)) × Int × Int × Int × Int × Int) => bK (decide (0 + (List.map (mkV true Mark_tfs) (putLF d17)).length ≤ (List.map (mkV true Mark_tfs) (putLF d17)).length)) (bK (decide (0 + (List.map (mkV true File_tfs) d15.snd).length ≤ (List.map (mkV true File_tfs) d15.snd).length)) (some { pan := false, res := AV.tup [AV.agg [AV.slc false (List.take (List.map (mkV true File_tfs) d15.snd).length (List.drop 0 (List.map (mkV true File_tfs) d15.snd))), AV.slc false (List.take (List.map (mkV true Mark_tfs) (putLF d17)).length (List.drop 0 (List.map (mkV true Mark_tfs) (putLF d17)))), AV.int IntKind.i64 s_Epoch], AV.agg [AV.int IntKind.i64 seq, AV.int IntKind.i64 1, AV.int IntKind.i64 0, AV.int IntKind.i64 0]], out := [], new := [] }) none) none) none)
                        (oK (cwPK.dec [AV.slc l_x (List.map (mkV true Write_tfs) l), AV.fn 44 [] []] []) fun (d18 : Bool × List (Int × List UInt8)) =>
                          bK (decide (0 ≤ badF d18)) (oK (cfP.dec [AV.slc s_Files_x (List.map (mkV true File_tfs) s_Files)] []) fun (d19 : Bool × List (List UInt8 × Int × List UInt8)) => oK (cmP.dec [AV.slc s_Marks_x (List.map (mkV true Mark_tfs) s_Marks)] []) fun (d20 : Bool × List (Int × Int × Int × Int)) => bK (decide (0 + (List.map (mkV true Mark_tfs) d20.snd).length ≤ (List.map (mkV true Mark_tfs) d20.snd).length)) (oK (mpP.dec [AV.slc false (List.take (List.map (mkV true Mark_tfs) d20.snd).length (List.drop 0 (List.map (mkV true Mark_tfs) d20.snd))), AV.int IntKind.i64 client, AV.agg [AV.int IntKind.i64 seq, AV.int IntKind.i64 1, AV.int IntKind.i64 0, AV.int IntKind.i64 0]] []) fun (d21 : (Bool × List (Int × Int × Int × Int)) × Int × Int × Int × Int × Int) => bK (decide (0 + (List.map (mkV true Mark_tfs) (putLF d21)).length ≤ (List.map (mkV true Mark_tfs) (putLF d21)).length)) (bK (decide (0 + (List.map (mkV true File_tfs) d19.snd).length ≤ (List.map (mkV true File_tfs) d19.snd).length)) (some { pan := false, res := AV.tup [AV.agg [AV.slc false (List.take (List.map (mkV true File_tfs) d19.snd).length (List.drop 0 (List.map (mkV true File_tfs) d19.snd))), AV.slc false (List.take (List.map (mkV true Mark_tfs) (putLF d21)).length (List.drop 0 (List.map (mkV true Mark_tfs) (putLF d21)))), AV.int IntKind.i64 s_Epoch], AV.agg [AV.int IntKind.i64 seq, AV.int IntKind.i64 1, AV.int IntKind.i64 0, AV.int IntKind.i64 0]], out := [], new := [] }) none) none) none)
                            (bK (decide (0 + (IntKind.i64.wrap (n - 1)).toNat < (List.map (mkV true File_tfs) d0.snd).length))
                              (bK (decide (0 + (IntKind.i64.wrap (n - 1)).toNat < (List.map (mkV true File_tfs) d0.snd).length))
                                (oK (ldRow [Lf.fs] (List.map (mkV true File_tfs) d0.snd) (0 + (IntKind.i64.wrap (n - 1)).toNat) 2) fun (d22 : List UInt8) =>
                                  oK (allWS.dec [AV.str d22, AV.slc l_x (List.map (mkV true Write_tfs) l)] []) fun (d23 : List UInt8 × Bool × List (Int × List UInt8)) =>
                                    bK (decide (0 + (IntKind.i64.wrap (n - 1)).toNat < (List.map (mkV true File_tfs) d0.snd).length))
                                      (bK (decide (0 + (IntKind.i64.wrap (n - 1)).toNat < (List.map (mkV true File_tfs) d0.snd).length))
                                        (oK (ldRow refused_tfs (List.map (mkV true File_tfs) d0.snd) (0 + (IntKind.i64.wrap (n - 1)).toNat) 1) fun (d24 : Int) =>
                                          bK (decide (0 + (IntKind.i64.wrap (n - 1)).toNat < (List.map (mkV true File_tfs) d0.snd).length))
                                            (bK (decide (0 + (IntKind.i64.wrap (n - 1)).toNat < (List.map (mkV true File_tfs) d0.snd).length))
                                              (oK (stRow (List.map (mkV true File_tfs) d0.snd) (0 + (IntKind.i64.wrap (n - 1)).toNat) 2 [AV.str (allF d23.fst d23.snd.snd)]) fun (d25 : List AV) =>
                                                bK (decide (0 + (IntKind.i64.wrap (n - 1)).toNat < d25.length))
                                                  (bK (decide (0 + (IntKind.i64.wrap (n - 1)).toNat < d25.length))
                                                    (oK (stRow d25 (0 + (IntKind.i64.wrap (n - 1)).toNat) 1 [AV.int IntKind.i64 (minI (IntKind.i64.wrap (d24 + 1)) 1073741824)]) fun (d26 : List AV) =>
                                                      bK (decide (0 + (IntKind.i64.wrap (n - 1)).toNat < d26.length)) (bK (decide (0 + (IntKind.i64.wrap (n - 1)).toNat < d26.length)) (oK (ldRow refused_tfs d26 (0 + (IntKind.i64.wrap (n - 1)).toNat) 1) fun (d27 : Int) => bK (decide (0 + (List.map (mkV true Mark_tfs) d1.snd).length ≤ (List.map (mkV true Mark_tfs) d1.snd).length)) (oK (mpP.dec [AV.slc false (List.take (List.map (mkV true Mark_tfs) d1.snd).length (List.drop 0 (List.map (mkV true Mark_tfs) d1.snd))), AV.int IntKind.i64 client, AV.agg [AV.int IntKind.i64 seq, AV.int IntKind.i64 0, AV.int IntKind.i64 n, AV.int IntKind.i64 d27]] []) fun (d28 : (Bool × List (Int × Int × Int × Int)) × Int × Int × Int × Int × Int) => bK (decide (0 + (List.map (mkV true Mark_tfs) (putLF d28)).length ≤ (List.map (mkV true Mark_tfs) (putLF d28)).length)) (bK (decide (0 + (List.map (mkV true File_tfs) d0.snd).length ≤ d26.length)) (some { pan := false, res := AV.tup [AV.agg [AV.slc false (List.take (List.map (mkV true File_tfs) d0.snd).length (List.drop 0 d26)), AV.slc false (List.take (List.map (mkV true Mark_tfs) (putLF d28)).length (List.drop 0 (List.map (mkV true Mark_tfs) (putLF d28)))), AV.int IntKind.i64 s_Epoch], AV.agg [AV.int IntKind.i64 seq, AV.int IntKind.i64 0, AV.int IntKind.i64 n, AV.int IntKind.i64 d27]], out := [], new := [] }) none) none) none) none) none)
                                                    none)
                                                  none)
                                              none)
                                            none)
                                        none)
                                      none)
                                none)
                              none))))
                    none))
              none)
            none))
        none)
theorem flushP_w (s_Files_x : Bool) (s_Files : List File_T) (s_Marks_x : Bool) (s_Marks : List Mark_T) (s_Epoch : Int) (client : Int) (seq : Int) (n : Int) (l_x : Bool) (l : List Write_T) : unitQ Try.prog cfg N2 LP0 false 16 (groupA flushP_sh (Tu.mk flushP_fs ((s_Files_x, s_Files), (s_Marks_x, s_Marks), s_Epoch, client, seq, n, (l_x, l)))) [] = flushP_r s_Files_x s_Files s_Marks_x s_Marks s_Epoch client seq n l_x l := by kernel_rfl

abbrev goneP_id : Nat := 19
abbrev goneP_sh : Shp := [some 3, none, none, none]
abbrev goneP_fs : List Lf := [.fl true File_tfs, .fl true Mark_tfs, .fi .i64, .fi .i64, .fi .i64, .fi .i64]
abbrev goneP_rsh : Shp := [some 3, some 4]
abbrev goneP_rfs : List Lf := [.fl true File_tfs, .fl true Mark_tfs, .fi .i64, .fi .i64, .fi .i64, .fi .i64, .fi .i64]
noncomputable def goneP_r (s_Files_x : Bool) (s_Files : List File_T) (s_Marks_x : Bool) (s_Marks : List Mark_T) (s_Epoch : Int) (client : Int) (seq : Int) (n : Int) : Option Ret :=
  oK (cfP.dec [AV.slc s_Files_x (List.map (mkV true File_tfs) s_Files)] []) fun (d0 : Bool × List (List UInt8 × Int × List UInt8)) =>
  oK (cmP.dec [AV.slc s_Marks_x (List.map (mkV true Mark_tfs) s_Marks)] []) fun (d1 : Bool × List (Int × Int × Int × Int)) =>
    bK (decide (n < 1)) (oK (cfP.dec [AV.slc s_Files_x (List.map (mkV true File_tfs) s_Files)] []) fun (d2 : Bool × List (List UInt8 × Int × List UInt8)) => oK (cmP.dec [AV.slc s_Marks_x (List.map (mkV true Mark_tfs) s_Marks)] []) fun (d3 : Bool × List (Int × Int × Int × Int)) => bK (decide (0 + (List.map (mkV true Mark_tfs) d3.snd).length ≤ (List.map (mkV true Mark_tfs) d3.snd).length)) (oK (mpP.dec [AV.slc false (List.take (List.map (mkV true Mark_tfs) d3.snd).length (List.drop 0 (List.map (mkV true Mark_tfs) d3.snd))), AV.int IntKind.i64 client, AV.agg [AV.int IntKind.i64 seq, AV.int IntKind.i64 2, AV.int IntKind.i64 0, AV.int IntKind.i64 0]] []) fun (d4 : (Bool × List (Int × Int × Int × Int)) × Int × Int × Int × Int × Int) => bK (decide (0 + (List.map (mkV true Mark_tfs) (putLF d4)).length ≤ (List.map (mkV true Mark_tfs) (putLF d4)).length)) (bK (decide (0 + (List.map (mkV true File_tfs) d2.snd).length ≤ (List.map (mkV true File_tfs) d2.snd).length)) (some { pan := false, res := AV.tup [AV.agg [AV.slc false (List.take (List.map (mkV true File_tfs) d2.snd).length (List.drop 0 (List.map (mkV true File_tfs) d2.snd))), AV.slc false (List.take (List.map (mkV true Mark_tfs) (putLF d4)).length (List.drop 0 (List.map (mkV true Mark_tfs) (putLF d4)))), AV.int IntKind.i64 s_Epoch], AV.agg [AV.int IntKind.i64 seq, AV.int IntKind.i64 2, AV.int IntKind.i64 0, AV.int IntKind.i64 0]], out := [], new := [] }) none) none) none)
      (bK (decide (0 + (List.map (mkV true File_tfs) d0.snd).length ≤ (List.map (mkV true File_tfs) d0.snd).length))
        (bK (decide ((↑(List.map (mkV true File_tfs) d0.snd).length : Int) < n)) (oK (cfP.dec [AV.slc s_Files_x (List.map (mkV true File_tfs) s_Files)] []) fun (d5 : Bool × List (List UInt8 × Int × List UInt8)) => oK (cmP.dec [AV.slc s_Marks_x (List.map (mkV true Mark_tfs) s_Marks)] []) fun (d6 : Bool × List (Int × Int × Int × Int)) => bK (decide (0 + (List.map (mkV true Mark_tfs) d6.snd).length ≤ (List.map (mkV true Mark_tfs) d6.snd).length)) (oK (mpP.dec [AV.slc false (List.take (List.map (mkV true Mark_tfs) d6.snd).length (List.drop 0 (List.map (mkV true Mark_tfs) d6.snd))), AV.int IntKind.i64 client, AV.agg [AV.int IntKind.i64 seq, AV.int IntKind.i64 2, AV.int IntKind.i64 0, AV.int IntKind.i64 0]] []) fun (d7 : (Bool × List (Int × Int × Int × Int)) × Int × Int × Int × Int × Int) => bK (decide (0 + (List.map (mkV true Mark_tfs) (putLF d7)).length ≤ (List.map (mkV true Mark_tfs) (putLF d7)).length)) (bK (decide (0 + (List.map (mkV true File_tfs) d5.snd).length ≤ (List.map (mkV true File_tfs) d5.snd).length)) (some { pan := false, res := AV.tup [AV.agg [AV.slc false (List.take (List.map (mkV true File_tfs) d5.snd).length (List.drop 0 (List.map (mkV true File_tfs) d5.snd))), AV.slc false (List.take (List.map (mkV true Mark_tfs) (putLF d7)).length (List.drop 0 (List.map (mkV true Mark_tfs) (putLF d7)))), AV.int IntKind.i64 s_Epoch], AV.agg [AV.int IntKind.i64 seq, AV.int IntKind.i64 2, AV.int IntKind.i64 0, AV.int IntKind.i64 0]], out := [], new := [] }) none) none) none)
          (bK (decide (0 ≤ IntKind.i64.wrap (n - 1) ∧ IntKind.i64.wrap (n - 1) < (↑(List.map (mkV true File_tfs) d0.snd).length : Int)))
            (bK (decide (0 + (IntKind.i64.wrap (n - 1)).toNat < (List.map (mkV true File_tfs) d0.snd).length))
              (oK (ldRow [Lf.fs] (List.map (mkV true File_tfs) d0.snd) (0 + (IntKind.i64.wrap (n - 1)).toNat) 0) fun (d8 : List UInt8) =>
                bK (decide (d8 = [])) (oK (cfP.dec [AV.slc s_Files_x (List.map (mkV true File_tfs) s_Files)] []) fun (d9 : Bool × List (List UInt8 × Int × List UInt8)) => oK (cmP.dec [AV.slc s_Marks_x (List.map (mkV true Mark_tfs) s_Marks)] []) fun (d10 : Bool × List (Int × Int × Int × Int)) => bK (decide (0 + (List.map (mkV true Mark_tfs) d10.snd).length ≤ (List.map (mkV true Mark_tfs) d10.snd).length)) (oK (mpP.dec [AV.slc false (List.take (List.map (mkV true Mark_tfs) d10.snd).length (List.drop 0 (List.map (mkV true Mark_tfs) d10.snd))), AV.int IntKind.i64 client, AV.agg [AV.int IntKind.i64 seq, AV.int IntKind.i64 2, AV.int IntKind.i64 0, AV.int IntKind.i64 0]] []) fun (d11 : (Bool × List (Int × Int × Int × Int)) × Int × Int × Int × Int × Int) => bK (decide (0 + (List.map (mkV true Mark_tfs) (putLF d11)).length ≤ (List.map (mkV true Mark_tfs) (putLF d11)).length)) (bK (decide (0 + (List.map (mkV true File_tfs) d9.snd).length ≤ (List.map (mkV true File_tfs) d9.snd).length)) (some { pan := false, res := AV.tup [AV.agg [AV.slc false (List.take (List.map (mkV true File_tfs) d9.snd).length (List.drop 0 (List.map (mkV true File_tfs) d9.snd))), AV.slc false (List.take (List.map (mkV true Mark_tfs) (putLF d11)).length (List.drop 0 (List.map (mkV true Mark_tfs) (putLF d11)))), AV.int IntKind.i64 s_Epoch], AV.agg [AV.int IntKind.i64 seq, AV.int IntKind.i64 2, AV.int IntKind.i64 0, AV.int IntKind.i64 0]], out := [], new := [] }) none) none) none)
                  (bK (decide (0 ≤ IntKind.i64.wrap (n - 1) ∧ IntKind.i64.wrap (n - 1) < (↑(List.map (mkV true File_tfs) d0.snd).length : Int)))
                    (bK (decide (0 + (IntKind.i64.wrap (n - 1)).toNat < (List.map (mkV true File_tfs) d0.snd).length)) (oK (stRow (List.map (mkV true File_tfs) d0.snd) (0 + (IntKind.i64.wrap (n - 1)).toNat) 0 [AV.str [], AV.int IntKind.i64 0, AV.str []]) fun (d12 : List AV) => bK (decide (0 + (List.map (mkV true Mark_tfs) d1.snd).length ≤ (List.map (mkV true Mark_tfs) d1.snd).length)) (oK (mpP.dec [AV.slc false (List.take (List.map (mkV true Mark_tfs) d1.snd).length (List.drop 0 (List.map (mkV true Mark_tfs) d1.snd))), AV.int IntKind.i64 client, AV.agg [AV.int IntKind.i64 seq, AV.int IntKind.i64 0, AV.int IntKind.i64 n, AV.int IntKind.i64 0]] []) fun (d13 : (Bool × List (Int × Int × Int × Int)) × Int × Int × Int × Int × Int) => bK (decide (0 + (List.map (mkV true Mark_tfs) (putLF d13)).length ≤ (List.map (mkV true Mark_tfs) (putLF d13)).length)) (bK (decide (0 + (List.map (mkV true File_tfs) d0.snd).length ≤ d12.length)) (some { pan := false, res := AV.tup [AV.agg [AV.slc false (List.take (List.map (mkV true File_tfs) d0.snd).length (List.drop 0 d12)), AV.slc false (List.take (List.map (mkV true Mark_tfs) (putLF d13)).length (List.drop 0 (List.map (mkV true Mark_tfs) (putLF d13)))), AV.int IntKind.i64 s_Epoch], AV.agg [AV.int IntKind.i64 seq, AV.int IntKind.i64 0, AV.int IntKind.i64 n, AV.int IntKind.i64 0]], out := [], new := [] }) none) none) none) none) none))
              none)
            none))
        none)
theorem goneP_w (s_Files_x : Bool) (s_Files : List File_T) (s_Marks_x : Bool) (s_Marks : List Mark_T) (s_Epoch : Int) (client : Int) (seq : Int) (n : Int) : unitQ Try.prog cfg N2 LP0 false 19 (groupA goneP_sh (Tu.mk goneP_fs ((s_Files_x, s_Files), (s_Marks_x, s_Marks), s_Epoch, client, seq, n))) [] = goneP_r s_Files_x s_Files s_Marks_x s_Marks s_Epoch client seq n := by kernel_rfl

end Go.Proofs.Ytihgfpggdkhhaaa
