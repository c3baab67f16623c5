/- A part of the proof: contracts of functions. -/
import Derived.Test.YtihgfpggdkhhaaaR
import Derived.Test.YtihgfpggdkhhaaaAbAny

set_option linter.unusedVariables false
set_option linter.unusedSimpArgs false
set_option maxRecDepth 100000
namespace Go.Proofs.Ytihgfpggdkhhaaa
open Go Go.Ab
theorem loopsFI : (loopsOf 0 (codeOf Try.prog 39)).map (·.1) = [0] := by kernel_rfl
theorem oneFI : OneLoops Try.prog 39 := by unfold OneLoops; rw [loopsFI]; decide
theorem atFI : At 0 (codeOf Try.prog 39) 0 (.loop (bodyAt Try.prog 39 0)) := at_body oneFI (by rw [loopsFI]; decide)
def fiNo : Ex × St := (.exit 0, { fr := [], bs := [], df := [] })
def fiYes (n : Nat) : Ex × St := (.ret, { fr := [(4, .int .i64 n), (5, .bool true)], bs := [], df := [] })
theorem fi_run (x : Bool) (l : List File_T) (nm : List UInt8) (hl : l.length ≤ 100000) (hn : nm.length ≤ 1000) (hm' : mayNF nm = true) : ∀ (j i : Nat), i + j = l.length → ∀ (m : Nat), j < m → Runs' Try.prog cfg PKs5 39 0 m (fiHd x l nm i) (if posN nm (l.drop i) i = 0 then fiNo else fiYes (posN nm (l.drop i) i))
  | 0, i, hi, m + 1, hm => by
    rw [List.drop_of_length_le (by omega)]
    refine Runs'.done (lp := LP0) LPok.none atFI ((fi_s_w x l nm i).trans ?_)
    unfold fi_s_r
    rw [bK_neg (by rw [List.length_map]; exact decide_eq_false (by omega))]
    rfl
  | j + 1, i, hi, m + 1, hm => by
    have hi' : i < l.length := by omega
    have e : l.drop i = l[i] :: l.drop (i + 1) := List.drop_eq_getElem_cons hi'
    have hg : l.getD (i : Int).toNat ([], 0, []) = l[i] := by rw [Int.toNat_natCast, getD_at hi']
    rw [e]
    by_cases h1 : l[i].1 = nm
    · have ep : posN nm (l[i] :: l.drop (i + 1)) i = i + 1 := by unfold posN; rw [if_pos h1]
      rw [ep, if_neg (by omega)]
      refine Runs'.done (lp := LP0) LPok.none atFI ((fi_s_w x l nm i).trans ?_)
      unfold fi_s_r
      rw [bK_pos (by rw [List.length_map]; exact decide_eq_true (by omega))]
      refine oK_fsq (Q := fun z => z = _) mayNS nm hn ?_
      rw [bK_pos (by exact hm')]
      refine (oK_atD rfl ([], 0, []) (by omega) (by omega)).trans ?_
      rw [hg, bK_pos (by exact decide_eq_true h1), w64 (by omega) (by omega)]
      rfl
    · have ep : posN nm (l[i] :: l.drop (i + 1)) i = posN nm (l.drop (i + 1)) (i + 1) := by rw [posN, if_neg h1]
      rw [ep]
      refine Runs'.step (lp := LP0) LPok.none atFI ((fi_s_w x l nm i).trans ?_) (fi_run x l nm hl hn hm' j (i + 1) (by omega) m (by omega))
      unfold fi_s_r
      rw [bK_pos (by rw [List.length_map]; exact decide_eq_true (by omega))]
      refine oK_fsq (Q := fun z => z = _) mayNS nm hn ?_
      rw [bK_pos (by exact hm')]
      refine (oK_atD rfl ([], 0, []) (by omega) (by omega)).trans ?_
      rw [hg, bK_neg (by exact decide_eq_false h1), w64 (by omega) (by omega)]
      rfl
abbrev FiD : Type := Bool × List File_T × List UInt8
def fiH (d : FiD) : St := fiHd d.1 d.2.1 d.2.2 0
/-- Is there one of that name? -/
def findB (l : List File_T) (nm : List UInt8) : Bool := mayNF nm && !decide (posN nm l 0 = 0)
noncomputable def fiL : LP := LP.of (D := FiD) fiH (fun d => d.2.1.length ≤ 100000 ∧ d.2.2.length ≤ 1000) fun d => .ite (findB d.2.1 d.2.2) (.leaf (fiYes (posF d.2.2 d.2.1))) (.leaf fiNo)
noncomputable def LPfi : LPs := LPs.add LP0 39 0 fiL
theorem LPfi_ok : LPok Try.prog cfg PKs5 LPfi 39 := LPok.addH LPok.none oneFI (by
  rintro ⟨x, l, nm⟩ ⟨h1, h2⟩
  simp only at h1 h2
  simp only [Alt.val]
  by_cases hm : mayNF nm = true
  · have hr := fi_run x l nm h1 h2 hm l.length 0 (by omega) rounds (by simp only [rounds]; omega)
    rw [List.drop_zero] at hr
    unfold findB
    rw [hm, Bool.true_and]
    by_cases hq : posN nm l 0 = 0
    · rw [if_pos hq] at hr
      rw [decide_eq_true hq]; exact hr
    · rw [if_neg hq] at hr
      rw [decide_eq_false hq]; exact hr
  · have hm0 : mayNF nm = false := by simpa using hm
    unfold findB
    rw [hm0, Bool.false_and]
    refine Runs'.done (lp := LP0) (k := rounds - 1) LPok.none atFI ((fi_s_w x l nm 0).trans ?_)
    unfold fi_s_r
    refine bK_i (fun c => ?_) (fun c => rfl)
    refine oK_fsq (Q := fun z => z = _) mayNS nm h2 ?_
    rw [bK_neg (by exact hm0)]
    rfl)
theorem fiH_inj (d d' : FiD) (h : fiH d = fiH d') : d = d' := by
  obtain ⟨x, l, nm⟩ := d
  obtain ⟨x', l', nm'⟩ := d'
  simp only [fiH, fiHd, St.mk.injEq, List.cons.injEq, Prod.mk.injEq, AV.slc.injEq, AV.str.injEq, and_true, true_and] at h
  rw [h.1.1, map_inj (fs := File_tfs) rfl h.1.2, h.2]
abbrev find_id : Nat := 39
abbrev find_sh : Shp := [none, none]
abbrev find_fs : List Lf := [.fl true File_tfs, .fs]
abbrev find_rsh : Shp := [none, none]
abbrev find_rfs : List Lf := [.fi .i64, .fb]
noncomputable def find_r (l_x : Bool) (l : List File_T) (name : List UInt8) : Option Ret :=
  oK (fiL.dec { fr := [(0, AV.slc l_x (List.map (mkV true File_tfs) l)), (1, AV.str name), (6, AV.int IntKind.i64 0)], bs := [], df := [] }) fun (d0 : Bool × List (List UInt8 × Int × List UInt8) × List UInt8) => bK (findB d0.snd.fst d0.snd.snd) (some { pan := false, res := AV.tup [AV.int IntKind.i64 (↑(posF d0.snd.snd d0.snd.fst) : Int), AV.bool true], out := [], new := [] }) (some { pan := false, res := AV.tup [AV.int IntKind.i64 0, AV.bool false], out := [], new := [] })
theorem find_w (l_x : Bool) (l : List File_T) (name : List UInt8) : unitQ Try.prog cfg PKs5 LPfi false 39 (groupA find_sh (Tu.mk find_fs ((l_x, l), name))) [] = find_r l_x l name := by kernel_rfl

/-- The first of a name. -/
noncomputable def findF (l : List File_T) (nm : List UInt8) : Int × Bool := if findB l nm = true then ((posF nm l : Int), true) else (0, false)
noncomputable def findS : FS := ⟨find_sh, find_fs, find_rsh, find_rfs, fun d => d.1.2.length ≤ 100000 ∧ d.2.length ≤ 1000, fun d => findF d.1.2 d.2, none⟩
theorem find_v (l_x : Bool) (l : List File_T) (name : List UInt8) (h : findS.pre ((l_x, l), name)) : find_r l_x l name = some (findS.ret ((l_x, l), name)) := by
  show _ = some (findS.out (findF l name))
  unfold find_r
  refine oK_lpq (Q := fun z => z = _) fiH_inj (l_x, l, name) h ?_
  show bK (findB l name) _ _ = _
  unfold findF
  cases findB l name <;> rfl
theorem find_ok : ∀ (d : Tu find_fs), findS.pre d → unitQ Try.prog cfg PKs5 LPfi false 39 (findS.args d) [] = some (findS.ret d)
  | ((l_x, l), name), h => (find_w l_x l name).trans (find_v l_x l name h)
noncomputable def PKs6 : PKs := PKs5.add 39 findS.pk
theorem PKs6_ok : PKsOk Try.prog PKs6 := PKsOk.fs (cfg := cfg) PKs5_ok (fnOk PKs5_ok 21) 39 rfl LPfi (LPfi_ok.loops) findS find_ok

theorem bytesFl : Try.prog.bytesOf 56 = 40 := by kernel_rfl
theorem fitFl {n : Nat} (h : n ≤ 1000000) : bytesFit Try.prog 56 n = true := by
  simp only [bytesFit, bytesFl, decide_eq_true_eq]; omega
theorem stFile (l : List File_T) (i : Nat) (h : i < l.length) (m : File_T) : stRow (l.map (mkV true File_tfs)) i 0 [.str m.1, .int .i64 m.2.1, .str m.2.2] = some ((l.set i m).map (mkV true File_tfs)) := by
  simp [stRow, h, splice, mkV, mkA, AV.cells, AV.recell, Tu.mk, Lf.mk, List.map_set]
/-- With a mark, and a file that is another one. -/
def setF (l : List File_T) (a : Int) (f : File_T) : List File_T := if 0 < a then l.set (a - 1).toNat f else l
def markF (s : State_T) (c : Int) (m : Mark_T) (a : Int) (f : File_T) : State_T := ((false, setF s.1.2 a f), (false, putL s.2.1.2 c m), s.2.2)
abbrev mS (d : Tu marked_fs) : State_T := (d.1, d.2.1, d.2.2.1)
abbrev mC (d : Tu marked_fs) : Int := d.2.2.2.1
abbrev mM (d : Tu marked_fs) : Mark_T := (d.2.2.2.2.1, d.2.2.2.2.2.1, d.2.2.2.2.2.2.1, d.2.2.2.2.2.2.2.1)
abbrev mA (d : Tu marked_fs) : Int := d.2.2.2.2.2.2.2.2.1
abbrev mF (d : Tu marked_fs) : File_T := d.2.2.2.2.2.2.2.2.2
def markedS : FS := ⟨marked_sh, marked_fs, marked_rsh, marked_rfs, fun d => 1 ≤ (mS d).1.2.length ∧ (mS d).1.2.length ≤ 100000 ∧ (mS d).2.1.2.length ≤ 100000 ∧ mA d ≤ ((mS d).1.2.length : Int), fun d => let y := markF (mS d) (mC d) (mM d) (mA d) (mF d); (y.1, y.2.1, y.2.2, (mM d).1, (mM d).2.1, (mM d).2.2.1, (mM d).2.2.2), none⟩
theorem marked_v (s_Files_x : Bool) (s_Files : List File_T) (s_Marks_x : Bool) (s_Marks : List Mark_T) (s_Epoch : Int) (client : Int) (m_Seq : Int) (m_Err : Int) (m_File : Int) (m_Ver : Int) (at_ : Int) (f_Name : List UInt8) (f_Ver : Int) (f_Body : List UInt8) (h : markedS.pre ((s_Files_x, s_Files), (s_Marks_x, s_Marks), s_Epoch, client, m_Seq, m_Err, m_File, m_Ver, at_, f_Name, f_Ver, f_Body)) : marked_r s_Files_x s_Files s_Marks_x s_Marks s_Epoch client m_Seq m_Err m_File m_Ver at_ f_Name f_Ver f_Body = some (markedS.ret ((s_Files_x, s_Files), (s_Marks_x, s_Marks), s_Epoch, client, m_Seq, m_Err, m_File, m_Ver, at_, f_Name, f_Ver, f_Body)) := by
  obtain ⟨h1, h2, h3, h4⟩ := h
  have h1' : 1 ≤ s_Files.length := h1
  have h2' : s_Files.length ≤ 100000 := h2
  have h3' : s_Marks.length ≤ 100000 := h3
  have h4' : at_ ≤ (s_Files.length : Int) := h4
  show _ = some (markedS.out ((false, setF s_Files at_ (f_Name, f_Ver, f_Body)), (false, putL s_Marks client (m_Seq, m_Err, m_File, m_Ver)), s_Epoch, m_Seq, m_Err, m_File, m_Ver))
  unfold marked_r
  refine oK_fsq (Q := fun z => z = _) putMS ((s_Marks_x, s_Marks), client, m_Seq, m_Err, m_File, m_Ver) h3' ?_
  simp only [List.length_map, List.nil_append, Nat.zero_add, List.drop_zero]
  refine bK_tq (Q := fun z => z = _) (by simp [AV.cells, mkV, mkA, Tu.mk]) ?_
  refine bK_fq (Q := fun z => z = _) (by cases s_Files with | nil => simp at h1' | cons _ _ => rfl) ?_
  refine bK_tq (Q := fun z => z = _) (by rw [Bool.true_and]; exact fitFl (by omega)) ?_
  refine bK_i (fun c1 => ?_) (fun c1 => ?_)
  · rw [w64 (n := at_ - 1) (by omega) (by omega), bK_pos (by exact decide_eq_true (by omega))]
    refine (oK_pos (stFile s_Files (at_ - 1).toNat (by omega) (f_Name, f_Ver, f_Body))).trans ?_
    rw [bK_pos (by simp), List.take_of_length_le (by simp)]
    unfold setF
    rw [if_pos c1]
    rfl
  · rw [bK_pos (by simp), List.take_of_length_le (by simp)]
    unfold setF
    rw [if_neg c1]
    rfl
theorem marked_ok : ∀ (d : Tu marked_fs), markedS.pre d → unitQ Try.prog cfg PKs5 LP0 false 38 (markedS.args d) [] = some (markedS.ret d)
  | ((s_Files_x, s_Files), (s_Marks_x, s_Marks), s_Epoch, client, m_Seq, m_Err, m_File, m_Ver, at_, f_Name, f_Ver, f_Body), h => (marked_w s_Files_x s_Files s_Marks_x s_Marks s_Epoch client m_Seq m_Err m_File m_Ver at_ f_Name f_Ver f_Body).trans (marked_v s_Files_x s_Files s_Marks_x s_Marks s_Epoch client m_Seq m_Err m_File m_Ver at_ f_Name f_Ver f_Body h)
noncomputable def PKs7m : PKs := PKs5.add 38 markedS.pk
theorem PKs7m_ok : PKsOk Try.prog PKs7m := PKsOk.fs (cfg := cfg) PKs5_ok (fnOk PKs5_ok 21) 38 rfl LP0 fLoops_none markedS marked_ok

noncomputable def PKs7 : PKs := PKs6.add 38 markedS.pk
theorem PKs7_ok : PKsOk Try.prog PKs7 := PKsOk.take PKs6_ok PKs7m_ok rfl
abbrev openR_id : Nat := 15
abbrev openR_sh : Shp := [some 3, none, none, none]
abbrev openR_fs : List Lf := [.fl true File_tfs, .fl true Mark_tfs, .fi .i64, .fi .i64, .fi .i64, .fs]
abbrev openR_rsh : Shp := [some 3, some 4]
abbrev openR_rfs : List Lf := [.fl true File_tfs, .fl true Mark_tfs, .fi .i64, .fi .i64, .fi .i64, .fi .i64, .fi .i64]
noncomputable def openR_r (s_Files_x : Bool) (s_Files : List File_T) (s_Marks_x : Bool) (s_Marks : List Mark_T) (s_Epoch : Int) (client : Int) (seq : Int) (name : List UInt8) : Option Ret :=
  oK (mayNS.dec [AV.str name] []) fun (d0 : List UInt8) =>
  bK (!mayNF d0) (oK (markedS.dec [AV.agg [AV.slc s_Files_x (List.map (mkV true File_tfs) s_Files), AV.slc s_Marks_x (List.map (mkV true Mark_tfs) s_Marks), AV.int IntKind.i64 s_Epoch], AV.int IntKind.i64 client, AV.agg [AV.int IntKind.i64 seq, AV.int IntKind.i64 1, AV.int IntKind.i64 0, AV.int IntKind.i64 0], AV.int IntKind.i64 0, AV.agg [AV.str [], AV.int IntKind.i64 0, AV.str []]] []) fun (d1 : (Bool × List (List UInt8 × Int × List UInt8)) × (Bool × List (Int × Int × Int × Int)) × Int × Int × Int × Int × Int × Int × Int × List UInt8 × Int × List UInt8) => some { pan := false, res := AV.tup [AV.agg [AV.slc false (List.map (mkV true File_tfs) (markF (mS d1) (mC d1) (mM d1) (mA d1) (mF d1)).fst.snd), AV.slc false (List.map (mkV true Mark_tfs) (markF (mS d1) (mC d1) (mM d1) (mA d1) (mF d1)).snd.fst.snd), AV.int IntKind.i64 (markF (mS d1) (mC d1) (mM d1) (mA d1) (mF d1)).snd.snd], AV.agg [AV.int IntKind.i64 (mM d1).fst, AV.int IntKind.i64 (mM d1).snd.fst, AV.int IntKind.i64 (mM d1).snd.snd.fst, AV.int IntKind.i64 (mM d1).snd.snd.snd]], out := [], new := [] })
    (oK (findS.dec [AV.slc s_Files_x (List.map (mkV true File_tfs) s_Files), AV.str name] []) fun (d2 : (Bool × List (List UInt8 × Int × List UInt8)) × List UInt8) =>
      bK (findF d2.fst.snd d2.snd).snd (oK (elemAt true File_tfs (List.map (mkV true File_tfs) s_Files) (IntKind.i64.wrap ((findF d2.fst.snd d2.snd).fst - 1))) fun (d3 : List UInt8 × Int × List UInt8) => oK (markedS.dec [AV.agg [AV.slc s_Files_x (List.map (mkV true File_tfs) s_Files), AV.slc s_Marks_x (List.map (mkV true Mark_tfs) s_Marks), AV.int IntKind.i64 s_Epoch], AV.int IntKind.i64 client, AV.agg [AV.int IntKind.i64 seq, AV.int IntKind.i64 0, AV.int IntKind.i64 (findF d2.fst.snd d2.snd).fst, AV.int IntKind.i64 d3.snd.fst], AV.int IntKind.i64 0, AV.agg [AV.str [], AV.int IntKind.i64 0, AV.str []]] []) fun (d4 : (Bool × List (List UInt8 × Int × List UInt8)) × (Bool × List (Int × Int × Int × Int)) × Int × Int × Int × Int × Int × Int × Int × List UInt8 × Int × List UInt8) => some { pan := false, res := AV.tup [AV.agg [AV.slc false (List.map (mkV true File_tfs) (markF (mS d4) (mC d4) (mM d4) (mA d4) (mF d4)).fst.snd), AV.slc false (List.map (mkV true Mark_tfs) (markF (mS d4) (mC d4) (mM d4) (mA d4) (mF d4)).snd.fst.snd), AV.int IntKind.i64 (markF (mS d4) (mC d4) (mM d4) (mA d4) (mF d4)).snd.snd], AV.agg [AV.int IntKind.i64 (mM d4).fst, AV.int IntKind.i64 (mM d4).snd.fst, AV.int IntKind.i64 (mM d4).snd.snd.fst, AV.int IntKind.i64 (mM d4).snd.snd.snd]], out := [], new := [] })
        (oK (roomS.dec [AV.slc s_Files_x (List.map (mkV true File_tfs) s_Files)] []) fun (d5 : Bool × List (List UInt8 × Int × List UInt8)) =>
          bK (!(roomF d5.snd).snd) (oK (markedS.dec [AV.agg [AV.slc s_Files_x (List.map (mkV true File_tfs) s_Files), AV.slc s_Marks_x (List.map (mkV true Mark_tfs) s_Marks), AV.int IntKind.i64 s_Epoch], AV.int IntKind.i64 client, AV.agg [AV.int IntKind.i64 seq, AV.int IntKind.i64 3, AV.int IntKind.i64 0, AV.int IntKind.i64 0], AV.int IntKind.i64 0, AV.agg [AV.str [], AV.int IntKind.i64 0, AV.str []]] []) fun (d6 : (Bool × List (List UInt8 × Int × List UInt8)) × (Bool × List (Int × Int × Int × Int)) × Int × Int × Int × Int × Int × Int × Int × List UInt8 × Int × List UInt8) => some { pan := false, res := AV.tup [AV.agg [AV.slc false (List.map (mkV true File_tfs) (markF (mS d6) (mC d6) (mM d6) (mA d6) (mF d6)).fst.snd), AV.slc false (List.map (mkV true Mark_tfs) (markF (mS d6) (mC d6) (mM d6) (mA d6) (mF d6)).snd.fst.snd), AV.int IntKind.i64 (markF (mS d6) (mC d6) (mM d6) (mA d6) (mF d6)).snd.snd], AV.agg [AV.int IntKind.i64 (mM d6).fst, AV.int IntKind.i64 (mM d6).snd.fst, AV.int IntKind.i64 (mM d6).snd.snd.fst, AV.int IntKind.i64 (mM d6).snd.snd.snd]], out := [], new := [] })
            (oK (markedS.dec [AV.agg [AV.slc s_Files_x (List.map (mkV true File_tfs) s_Files), AV.slc s_Marks_x (List.map (mkV true Mark_tfs) s_Marks), AV.int IntKind.i64 s_Epoch], AV.int IntKind.i64 client, AV.agg [AV.int IntKind.i64 seq, AV.int IntKind.i64 0, AV.int IntKind.i64 (roomF d5.snd).fst, AV.int IntKind.i64 1], AV.int IntKind.i64 (roomF d5.snd).fst, AV.agg [AV.str name, AV.int IntKind.i64 1, AV.str []]] []) fun (d7 : (Bool × List (List UInt8 × Int × List UInt8)) × (Bool × List (Int × Int × Int × Int)) × Int × Int × Int × Int × Int × Int × Int × List UInt8 × Int × List UInt8) => some { pan := false, res := AV.tup [AV.agg [AV.slc false (List.map (mkV true File_tfs) (markF (mS d7) (mC d7) (mM d7) (mA d7) (mF d7)).fst.snd), AV.slc false (List.map (mkV true Mark_tfs) (markF (mS d7) (mC d7) (mM d7) (mA d7) (mF d7)).snd.fst.snd), AV.int IntKind.i64 (markF (mS d7) (mC d7) (mM d7) (mA d7) (mF d7)).snd.snd], AV.agg [AV.int IntKind.i64 (mM d7).fst, AV.int IntKind.i64 (mM d7).snd.fst, AV.int IntKind.i64 (mM d7).snd.snd.fst, AV.int IntKind.i64 (mM d7).snd.snd.snd]], out := [], new := [] })))
theorem openR_w (s_Files_x : Bool) (s_Files : List File_T) (s_Marks_x : Bool) (s_Marks : List Mark_T) (s_Epoch : Int) (client : Int) (seq : Int) (name : List UInt8) : unitQ Try.prog cfg PKs7 LP0 false 15 (groupA openR_sh (Tu.mk openR_fs ((s_Files_x, s_Files), (s_Marks_x, s_Marks), s_Epoch, client, seq, name))) [] = openR_r s_Files_x s_Files s_Marks_x s_Marks s_Epoch client seq name := by kernel_rfl

abbrev goneR_id : Nat := 20
abbrev goneR_sh : Shp := [some 3, none, none, none]
abbrev goneR_fs : List Lf := [.fl true File_tfs, .fl true Mark_tfs, .fi .i64, .fi .i64, .fi .i64, .fi .i64]
abbrev goneR_rsh : Shp := [some 3, some 4]
abbrev goneR_rfs : List Lf := [.fl true File_tfs, .fl true Mark_tfs, .fi .i64, .fi .i64, .fi .i64, .fi .i64, .fi .i64]
noncomputable def goneR_r (s_Files_x : Bool) (s_Files : List File_T) (s_Marks_x : Bool) (s_Marks : List Mark_T) (s_Epoch : Int) (client : Int) (seq : Int) (file : Int) : Option Ret :=
  oK (isSS.dec [AV.agg [AV.slc s_Files_x (List.map (mkV true File_tfs) s_Files), AV.slc s_Marks_x (List.map (mkV true Mark_tfs) s_Marks), AV.int IntKind.i64 s_Epoch], AV.int IntKind.i64 file] []) fun (d0 : (Bool × List (List UInt8 × Int × List UInt8)) × (Bool × List (Int × Int × Int × Int)) × Int × Int) =>
  bK (!isF d0.fst.snd d0.snd.snd.snd) (oK (markedS.dec [AV.agg [AV.slc s_Files_x (List.map (mkV true File_tfs) s_Files), AV.slc s_Marks_x (List.map (mkV true Mark_tfs) s_Marks), AV.int IntKind.i64 s_Epoch], AV.int IntKind.i64 client, AV.agg [AV.int IntKind.i64 seq, AV.int IntKind.i64 2, AV.int IntKind.i64 0, AV.int IntKind.i64 0], AV.int IntKind.i64 0, AV.agg [AV.str [], AV.int IntKind.i64 0, AV.str []]] []) fun (d1 : (Bool × List (List UInt8 × Int × List UInt8)) × (Bool × List (Int × Int × Int × Int)) × Int × Int × Int × Int × Int × Int × Int × List UInt8 × Int × List UInt8) => some { pan := false, res := AV.tup [AV.agg [AV.slc false (List.map (mkV true File_tfs) (markF (mS d1) (mC d1) (mM d1) (mA d1) (mF d1)).fst.snd), AV.slc false (List.map (mkV true Mark_tfs) (markF (mS d1) (mC d1) (mM d1) (mA d1) (mF d1)).snd.fst.snd), AV.int IntKind.i64 (markF (mS d1) (mC d1) (mM d1) (mA d1) (mF d1)).snd.snd], AV.agg [AV.int IntKind.i64 (mM d1).fst, AV.int IntKind.i64 (mM d1).snd.fst, AV.int IntKind.i64 (mM d1).snd.snd.fst, AV.int IntKind.i64 (mM d1).snd.snd.snd]], out := [], new := [] })
    (oK (markedS.dec [AV.agg [AV.slc s_Files_x (List.map (mkV true File_tfs) s_Files), AV.slc s_Marks_x (List.map (mkV true Mark_tfs) s_Marks), AV.int IntKind.i64 s_Epoch], AV.int IntKind.i64 client, AV.agg [AV.int IntKind.i64 seq, AV.int IntKind.i64 0, AV.int IntKind.i64 file, AV.int IntKind.i64 0], AV.int IntKind.i64 file, AV.agg [AV.str [], AV.int IntKind.i64 0, AV.str []]] []) fun (d2 : (Bool × List (List UInt8 × Int × List UInt8)) × (Bool × List (Int × Int × Int × Int)) × Int × Int × Int × Int × Int × Int × Int × List UInt8 × Int × List UInt8) => some { pan := false, res := AV.tup [AV.agg [AV.slc false (List.map (mkV true File_tfs) (markF (mS d2) (mC d2) (mM d2) (mA d2) (mF d2)).fst.snd), AV.slc false (List.map (mkV true Mark_tfs) (markF (mS d2) (mC d2) (mM d2) (mA d2) (mF d2)).snd.fst.snd), AV.int IntKind.i64 (markF (mS d2) (mC d2) (mM d2) (mA d2) (mF d2)).snd.snd], AV.agg [AV.int IntKind.i64 (mM d2).fst, AV.int IntKind.i64 (mM d2).snd.fst, AV.int IntKind.i64 (mM d2).snd.snd.fst, AV.int IntKind.i64 (mM d2).snd.snd.snd]], out := [], new := [] })
theorem goneR_w (s_Files_x : Bool) (s_Files : List File_T) (s_Marks_x : Bool) (s_Marks : List Mark_T) (s_Epoch : Int) (client : Int) (seq : Int) (file : Int) : unitQ Try.prog cfg PKs7 LP0 false 20 (groupA goneR_sh (Tu.mk goneR_fs ((s_Files_x, s_Files), (s_Marks_x, s_Marks), s_Epoch, client, seq, file))) [] = goneR_r s_Files_x s_Files s_Marks_x s_Marks s_Epoch client seq file := by kernel_rfl

end Go.Proofs.Ytihgfpggdkhhaaa
