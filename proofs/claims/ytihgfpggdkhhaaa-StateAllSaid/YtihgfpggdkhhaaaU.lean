/- A part of the proof: contracts of functions. -/
import Derived.Test.YtihgfpggdkhhaaaT
import Derived.Test.YtihgfpggdkhhaaaAbAny

set_option linter.unusedVariables false
set_option linter.unusedSimpArgs false
set_option maxRecDepth 100000
namespace Go.Proofs.Ytihgfpggdkhhaaa
open Go Go.Ab
noncomputable def openF (s : State_T) (c q : Int) (nm : List UInt8) : State_T × Mark_T :=
  if mayNF nm = true then
    if (findF s.1.2 nm).2 = true then (markF s c (q, 0, (findF s.1.2 nm).1, (s.1.2.getD (IntKind.i64.wrap ((findF s.1.2 nm).1 - 1)).toNat zF).2.1) 0 zF, (q, 0, (findF s.1.2 nm).1, (s.1.2.getD (IntKind.i64.wrap ((findF s.1.2 nm).1 - 1)).toNat zF).2.1))
    else if (roomF s.1.2).2 = true then (markF s c (q, 0, (roomF s.1.2).1, 1) (roomF s.1.2).1 (nm, 1, []), (q, 0, (roomF s.1.2).1, 1))
    else (markF s c (q, 3, 0, 0) 0 zF, (q, 3, 0, 0))
  else (markF s c (q, 1, 0, 0) 0 zF, (q, 1, 0, 0))
def sok (s : State_T) : Prop := 1 ≤ s.1.2.length ∧ s.1.2.length ≤ 100000 ∧ s.2.1.2.length ≤ 100000
abbrev sOut (y : State_T × Mark_T) : Tu openR_rfs := (y.1.1, y.1.2.1, y.1.2.2, y.2.1, y.2.2.1, y.2.2.2.1, y.2.2.2.2)
abbrev oS (d : Tu openR_fs) : State_T := (d.1, d.2.1, d.2.2.1)
/-- Opened. -/
noncomputable def openQ (s : State_T) (c q : Int) (nm : List UInt8) : State_T × Mark_T := openF s c q nm
noncomputable def openRS : FS := ⟨openR_sh, openR_fs, openR_rsh, openR_rfs, fun d => sok (oS d) ∧ d.2.2.2.2.2.length ≤ 1000, fun d => sOut (openQ (oS d) d.2.2.2.1 d.2.2.2.2.1 d.2.2.2.2.2), none⟩
abbrev mkD (s : State_T) (c : Int) (m : Mark_T) (a : Int) (f : File_T) : Tu marked_fs := (s.1, s.2.1, s.2.2, c, m.1, m.2.1, m.2.2.1, m.2.2.2, a, f.1, f.2.1, f.2.2)
theorem oK_mark {R : Type} (s : State_T) (c : Int) (m : Mark_T) (a : Int) (f : File_T) (h : sok s) (ha : a ≤ (s.1.2.length : Int)) {k : Tu marked_fs → Option R} {Q : Option R → Prop} (hz : Q (k (mkD s c m a f))) : Q (oK (markedS.dec (markedS.args (mkD s c m a f)) []) k) := oK_fsq markedS (mkD s c m a f) ⟨h.1, h.2.1, h.2.2, ha⟩ hz
theorem findF_in (l : List File_T) (nm : List UInt8) (h : (findF l nm).2 = true) : 1 ≤ (findF l nm).1 ∧ (findF l nm).1 ≤ (l.length : Int) := by
  unfold findF at h ⊢
  split at h
  · rename_i hb
    rw [if_pos hb]
    unfold findB at hb
    have hp : ¬ posN nm l 0 = 0 := by
      intro hh
      rw [hh] at hb
      simp at hb
    have := posN_le nm l 0
    show (1 : Int) ≤ (posN nm l 0 : Int) ∧ (posN nm l 0 : Int) ≤ _
    omega
  · cases h
theorem roomF_in (l : List File_T) (h : (roomF l).2 = true) : 1 ≤ (roomF l).1 ∧ (roomF l).1 ≤ (l.length : Int) := by
  unfold roomF at h ⊢
  split at h
  · cases h
  · rename_i hb
    rw [if_neg hb]
    have hp : ¬ posN [] l 0 = 0 := by
      intro hh
      exact hb (decide_eq_true hh)
    have := posN_le [] l 0
    show (1 : Int) ≤ (posN [] l 0 : Int) ∧ (posN [] l 0 : Int) ≤ _
    omega
theorem openR_v (s_Files_x : Bool) (s_Files : List File_T) (s_Marks_x : Bool) (s_Marks : List Mark_T) (s_Epoch : Int) (client : Int) (seq : Int) (name : List UInt8) (h : openRS.pre ((s_Files_x, s_Files), (s_Marks_x, s_Marks), s_Epoch, client, seq, name)) : openR_r s_Files_x s_Files s_Marks_x s_Marks s_Epoch client seq name = some (openRS.ret ((s_Files_x, s_Files), (s_Marks_x, s_Marks), s_Epoch, client, seq, name)) := by
  obtain ⟨h1, h2⟩ := h
  have hs : sok ((s_Files_x, s_Files), (s_Marks_x, s_Marks), s_Epoch) := h1
  have h0 : (0 : Int) ≤ (s_Files.length : Int) := Int.natCast_nonneg _
  show _ = some (openRS.out (sOut (openF ((s_Files_x, s_Files), (s_Marks_x, s_Marks), s_Epoch) client seq name)))
  unfold openR_r openF
  refine oK_fsq (Q := fun z => z = _) mayNS name h2 ?_
  refine bK_b (fun c1 => ?_) (fun c1 => ?_)
  · rw [if_neg (by simpa using c1)]
    exact oK_mark (Q := fun z => z = _) ((s_Files_x, s_Files), (s_Marks_x, s_Marks), s_Epoch) client (seq, 1, 0, 0) 0 zF hs h0 rfl
  · rw [if_pos (by simpa using c1)]
    refine oK_fsq (Q := fun z => z = _) findS ((s_Files_x, s_Files), name) ⟨hs.2.1, h2⟩ ?_
    refine bK_b (fun c2 => ?_) (fun c2 => ?_)
    · rw [if_pos c2]
      have hin := findF_in s_Files name c2
      have hl := hs.2.1
      simp only at hl
      have hw : IntKind.i64.wrap ((findF s_Files name).1 - 1) = (findF s_Files name).1 - 1 := w64 (by omega) (by omega)
      rw [hw]
      refine oK_atq (Q := fun z => z = _) zF (by omega) (by omega) ?_
      exact oK_mark (Q := fun z => z = _) ((s_Files_x, s_Files), (s_Marks_x, s_Marks), s_Epoch) client (seq, 0, (findF s_Files name).1, (s_Files.getD ((findF s_Files name).1 - 1).toNat zF).2.1) 0 zF hs h0 rfl
    · rw [if_neg (by rw [c2]; simp)]
      refine oK_fsq (Q := fun z => z = _) roomS (s_Files_x, s_Files) hs.2.1 ?_
      refine bK_b (fun c3 => ?_) (fun c3 => ?_)
      · rw [if_neg (by simpa using c3)]
        exact oK_mark (Q := fun z => z = _) ((s_Files_x, s_Files), (s_Marks_x, s_Marks), s_Epoch) client (seq, 3, 0, 0) 0 zF hs h0 rfl
      · have c3' : (roomF s_Files).2 = true := by simpa using c3
        rw [if_pos c3']
        exact oK_mark (Q := fun z => z = _) ((s_Files_x, s_Files), (s_Marks_x, s_Marks), s_Epoch) client (seq, 0, (roomF s_Files).1, 1) (roomF s_Files).1 (name, 1, []) hs (roomF_in _ c3').2 rfl
theorem openR_ok : ∀ (d : Tu openR_fs), openRS.pre d → unitQ Try.prog cfg PKs7 LP0 false 15 (openRS.args d) [] = some (openRS.ret d)
  | ((s_Files_x, s_Files), (s_Marks_x, s_Marks), s_Epoch, client, seq, name), h => (openR_w s_Files_x s_Files s_Marks_x s_Marks s_Epoch client seq name).trans (openR_v s_Files_x s_Files s_Marks_x s_Marks s_Epoch client seq name h)
noncomputable def PKu1 : PKs := PKs7.add 15 openRS.pk
theorem PKu1_ok : PKsOk Try.prog PKu1 := PKsOk.fs (cfg := cfg) PKs7_ok (fnOk PKs7_ok 21) 15 rfl LP0 fLoops_none openRS openR_ok

def goneF (s : State_T) (c q n : Int) : State_T × Mark_T := if isF s.1.2 n = true then (markF s c (q, 0, n, 0) n zF, (q, 0, n, 0)) else (markF s c (q, 2, 0, 0) 0 zF, (q, 2, 0, 0))
/-- Gone. -/
noncomputable def goneQ (s : State_T) (c q n : Int) : State_T × Mark_T := goneF s c q n
abbrev gS (d : Tu goneR_fs) : State_T := (d.1, d.2.1, d.2.2.1)
noncomputable def goneRS : FS := ⟨goneR_sh, goneR_fs, goneR_rsh, goneR_rfs, fun d => sok (gS d), fun d => sOut (goneQ (gS d) d.2.2.2.1 d.2.2.2.2.1 d.2.2.2.2.2), none⟩
theorem isF_in (l : List File_T) (n : Int) (h : isF l n = true) : 1 ≤ n ∧ n ≤ (l.length : Int) ∧ (l.getD (n - 1).toNat ([], 0, [])).1 ≠ [] := by
  unfold isF at h
  rw [Bool.and_eq_true, decide_eq_true_eq, Bool.not_eq_true', decide_eq_false_iff_not] at h
  exact ⟨h.1.1, h.1.2, h.2⟩
theorem goneR_v (s_Files_x : Bool) (s_Files : List File_T) (s_Marks_x : Bool) (s_Marks : List Mark_T) (s_Epoch : Int) (client : Int) (seq : Int) (file : Int) (h : goneRS.pre ((s_Files_x, s_Files), (s_Marks_x, s_Marks), s_Epoch, client, seq, file)) : goneR_r s_Files_x s_Files s_Marks_x s_Marks s_Epoch client seq file = some (goneRS.ret ((s_Files_x, s_Files), (s_Marks_x, s_Marks), s_Epoch, client, seq, file)) := by
  have hs : sok ((s_Files_x, s_Files), (s_Marks_x, s_Marks), s_Epoch) := h
  have h0 : (0 : Int) ≤ (s_Files.length : Int) := Int.natCast_nonneg _
  show _ = some (goneRS.out (sOut (goneF ((s_Files_x, s_Files), (s_Marks_x, s_Marks), s_Epoch) client seq file)))
  unfold goneR_r goneF
  refine oK_fsq (Q := fun z => z = _) isSS ((s_Files_x, s_Files), (s_Marks_x, s_Marks), s_Epoch, file) hs.2.1 ?_
  refine bK_b (fun c1 => ?_) (fun c1 => ?_)
  · rw [if_neg (by simpa using c1)]
    exact oK_mark (Q := fun z => z = _) ((s_Files_x, s_Files), (s_Marks_x, s_Marks), s_Epoch) client (seq, 2, 0, 0) 0 zF hs h0 rfl
  · have c1' : isF s_Files file = true := by simpa using c1
    rw [if_pos c1']
    exact oK_mark (Q := fun z => z = _) ((s_Files_x, s_Files), (s_Marks_x, s_Marks), s_Epoch) client (seq, 0, file, 0) file zF hs (isF_in _ _ c1').2.1 rfl
theorem goneR_ok : ∀ (d : Tu goneR_fs), goneRS.pre d → unitQ Try.prog cfg PKs7 LP0 false 20 (goneRS.args d) [] = some (goneRS.ret d)
  | ((s_Files_x, s_Files), (s_Marks_x, s_Marks), s_Epoch, client, seq, file), h => (goneR_w s_Files_x s_Files s_Marks_x s_Marks s_Epoch client seq file).trans (goneR_v s_Files_x s_Files s_Marks_x s_Marks s_Epoch client seq file h)
noncomputable def PKu2 : PKs := PKs7.add 20 goneRS.pk
theorem PKu2_ok : PKsOk Try.prog PKu2 := PKsOk.fs (cfg := cfg) PKs7_ok (fnOk PKs7_ok 21) 20 rfl LP0 fLoops_none goneRS goneR_ok

def zS : State_T := ((true, []), (true, []), 0)
def flHd (cl fl : Int) (x : Bool) (l : List Write_T) (s : State_T) (m : Mark_T) (ok : Bool) (i : Int) : St :=
  { fr := [(1, .int .i64 cl), (3, .int .i64 fl), (4, .slc x (l.map (mkV true Write_tfs))), (5, .ptr 80 0 0 0), (10, .ptr 160 0 0 0), (11, .ptr 176 0 0 0), (12, .ptr 192 0 0 0), (13, .bool ok), (14, .int .i64 i)], bs := [(80, boxB (Tu.mk State_tfs s)), (160, boxB (Tu.mk State_tfs zS)), (176, boxB (Tu.mk Mark_tfs zM)), (192, boxB (Tu.mk Mark_tfs m))], df := [] }
noncomputable def fl_s (cl fl : Int) (x : Bool) (l : List Write_T) (s : State_T) (m : Mark_T) (ok : Bool) (i : Int) : Option (St ⊕ (Ex × St)) := stepK Try.prog cfg PKs7 LP0 17 0 (flHd cl fl x l s m ok i)
noncomputable def fl_s_r (cl : Int) (fl : Int) (x : Bool) (l : List Write_T) (s : State_T) (m : Mark_T) (ok : Bool) (i : Int) : Option (St ⊕ Ex × St) :=
  bK (decide (i < (↑(List.map (mkV true Write_tfs) l).length : Int)))
  (bK ok (oK (elemAt true Write_tfs (List.map (mkV true Write_tfs) l) i) fun (d0 : Int × List UInt8) => oK (mayRS.dec [AV.agg [AV.int IntKind.i64 d0.fst, AV.str d0.snd]] []) fun (d1 : Int × List UInt8) => some (Sum.inl { fr := [(1, AV.int IntKind.i64 cl), (3, AV.int IntKind.i64 fl), (4, AV.slc x (List.map (mkV true Write_tfs) l)), (5, AV.ptr 80 0 0 0), (10, AV.ptr 160 0 0 0), (11, AV.ptr 176 0 0 0), (12, AV.ptr 192 0 0 0), (13, AV.bool (decide (mayB d1))), (14, AV.int IntKind.i64 (IntKind.i64.wrap (i + 1)))], bs := [(80, { v := 0, k := BK.box, fz := false, sz := 0, es := [AV.slc s.fst.fst (List.map (mkV true File_tfs) s.fst.snd), AV.slc s.snd.fst.fst (List.map (mkV true Mark_tfs) s.snd.fst.snd), AV.int IntKind.i64 s.snd.snd] }), (160, { v := 0, k := BK.box, fz := false, sz := 0, es := [AV.slc true [], AV.slc true [], AV.int IntKind.i64 0] }), (176, { v := 0, k := BK.box, fz := false, sz := 0, es := [AV.int IntKind.i64 0, AV.int IntKind.i64 0, AV.int IntKind.i64 0, AV.int IntKind.i64 0] }), (192, { v := 0, k := BK.box, fz := false, sz := 0, es := [AV.int IntKind.i64 m.fst, AV.int IntKind.i64 m.snd.fst, AV.int IntKind.i64 m.snd.snd.fst, AV.int IntKind.i64 m.snd.snd.snd] })], df := [] }))
    (some (Sum.inl { fr := [(1, AV.int IntKind.i64 cl), (3, AV.int IntKind.i64 fl), (4, AV.slc x (List.map (mkV true Write_tfs) l)), (5, AV.ptr 80 0 0 0), (10, AV.ptr 160 0 0 0), (11, AV.ptr 176 0 0 0), (12, AV.ptr 192 0 0 0), (13, AV.bool false), (14, AV.int IntKind.i64 (IntKind.i64.wrap (i + 1)))], bs := [(80, { v := 0, k := BK.box, fz := false, sz := 0, es := [AV.slc s.fst.fst (List.map (mkV true File_tfs) s.fst.snd), AV.slc s.snd.fst.fst (List.map (mkV true Mark_tfs) s.snd.fst.snd), AV.int IntKind.i64 s.snd.snd] }), (160, { v := 0, k := BK.box, fz := false, sz := 0, es := [AV.slc true [], AV.slc true [], AV.int IntKind.i64 0] }), (176, { v := 0, k := BK.box, fz := false, sz := 0, es := [AV.int IntKind.i64 0, AV.int IntKind.i64 0, AV.int IntKind.i64 0, AV.int IntKind.i64 0] }), (192, { v := 0, k := BK.box, fz := false, sz := 0, es := [AV.int IntKind.i64 m.fst, AV.int IntKind.i64 m.snd.fst, AV.int IntKind.i64 m.snd.snd.fst, AV.int IntKind.i64 m.snd.snd.snd] })], df := [] })))
  (some (Sum.inr (Ex.exit 0, { fr := [(1, AV.int IntKind.i64 cl), (3, AV.int IntKind.i64 fl), (4, AV.slc x (List.map (mkV true Write_tfs) l)), (5, AV.ptr 80 0 0 0), (10, AV.ptr 160 0 0 0), (11, AV.ptr 176 0 0 0), (12, AV.ptr 192 0 0 0), (13, AV.bool ok)], bs := [(80, { v := 0, k := BK.box, fz := false, sz := 0, es := [AV.slc s.fst.fst (List.map (mkV true File_tfs) s.fst.snd), AV.slc s.snd.fst.fst (List.map (mkV true Mark_tfs) s.snd.fst.snd), AV.int IntKind.i64 s.snd.snd] }), (160, { v := 0, k := BK.box, fz := false, sz := 0, es := [AV.slc true [], AV.slc true [], AV.int IntKind.i64 0] }), (176, { v := 0, k := BK.box, fz := false, sz := 0, es := [AV.int IntKind.i64 0, AV.int IntKind.i64 0, AV.int IntKind.i64 0, AV.int IntKind.i64 0] }), (192, { v := 0, k := BK.box, fz := false, sz := 0, es := [AV.int IntKind.i64 m.fst, AV.int IntKind.i64 m.snd.fst, AV.int IntKind.i64 m.snd.snd.fst, AV.int IntKind.i64 m.snd.snd.snd] })], df := [] })))
theorem fl_s_w (cl : Int) (fl : Int) (x : Bool) (l : List Write_T) (s : State_T) (m : Mark_T) (ok : Bool) (i : Int) : fl_s cl fl x l s m ok i = fl_s_r cl fl x l s m ok i := by kernel_rfl

theorem loopsFL : (loopsOf 0 (codeOf Try.prog 17)).map (·.1) = [0] := by kernel_rfl
theorem oneFL : OneLoops Try.prog 17 := by unfold OneLoops; rw [loopsFL]; decide
theorem atFL : At 0 (codeOf Try.prog 17) 0 (.loop (bodyAt Try.prog 17 0)) := at_body oneFL (by rw [loopsFL]; decide)
def allMay (l : List Write_T) : Bool := l.all fun w => decide (mayB w)
def flEnd (cl fl : Int) (x : Bool) (l : List Write_T) (s : State_T) (m : Mark_T) (ok : Bool) : St :=
  { fr := [(1, .int .i64 cl), (3, .int .i64 fl), (4, .slc x (l.map (mkV true Write_tfs))), (5, .ptr 80 0 0 0), (10, .ptr 160 0 0 0), (11, .ptr 176 0 0 0), (12, .ptr 192 0 0 0), (13, .bool ok)], bs := [(80, boxB (Tu.mk State_tfs s)), (160, boxB (Tu.mk State_tfs zS)), (176, boxB (Tu.mk Mark_tfs zM)), (192, boxB (Tu.mk Mark_tfs m))], df := [] }
theorem fl_run (cl fl : Int) (x : Bool) (l : List Write_T) (s : State_T) (m0 : Mark_T) (hl : l.length ≤ 100000) : ∀ (j i : Nat), i + j = l.length → ∀ (ok : Bool) (m : Nat), j < m → Runs' Try.prog cfg PKs7 17 0 m (flHd cl fl x l s m0 ok i) (.exit 0, flEnd cl fl x l s m0 (ok && allMay (l.drop i)))
  | 0, i, hi, ok, m + 1, hm => by
    rw [List.drop_of_length_le (by omega)]
    refine Runs'.done (lp := LP0) LPok.none atFL ((fl_s_w cl fl x l s m0 ok i).trans ?_)
    unfold fl_s_r
    rw [bK_neg (by rw [List.length_map]; exact decide_eq_false (by omega))]
    cases ok <;> rfl
  | j + 1, i, hi, ok, m + 1, hm => by
    have hi' : i < l.length := by omega
    have e : l.drop i = l[i] :: l.drop (i + 1) := List.drop_eq_getElem_cons hi'
    have hg : l.getD (i : Int).toNat (0, []) = l[i] := by rw [Int.toNat_natCast, getD_at hi']
    have ea : (ok && allMay (l.drop i)) = ((ok && decide (mayB l[i])) && allMay (l.drop (i + 1))) := by
      rw [e]; unfold allMay; rw [List.all_cons, Bool.and_assoc]
    rw [ea]
    refine Runs'.step (lp := LP0) LPok.none atFL ((fl_s_w cl fl x l s m0 ok i).trans ?_) (fl_run cl fl x l s m0 hl j (i + 1) (by omega) (ok && decide (mayB l[i])) m (by omega))
    unfold fl_s_r
    rw [bK_pos (by rw [List.length_map]; exact decide_eq_true (by omega))]
    cases ok with
    | false =>
      rw [bK_neg rfl, w64 (by omega) (by omega)]
      rfl
    | true =>
      rw [bK_pos rfl]
      refine (oK_atD rfl (0, []) (by omega) (by omega)).trans ?_
      rw [hg]
      refine oK_fsq (Q := fun z => z = _) mayRS l[i] trivial ?_
      rw [w64 (by omega) (by omega)]
      rfl
abbrev FlD : Type := Int × Int × Bool × List Write_T × State_T × Mark_T × Bool
def flH (d : FlD) : St := flHd d.1 d.2.1 d.2.2.1 d.2.2.2.1 d.2.2.2.2.1 d.2.2.2.2.2.1 d.2.2.2.2.2.2 0
/-- May all be? -/
def flQ (d : FlD) : Bool := d.2.2.2.2.2.2 && allMay d.2.2.2.1
noncomputable def flL : LP := LP.of (D := FlD) flH (fun d => d.2.2.2.1.length ≤ 100000) fun d => .leaf (.exit 0, flEnd d.1 d.2.1 d.2.2.1 d.2.2.2.1 d.2.2.2.2.1 d.2.2.2.2.2.1 (flQ d))
noncomputable def LPfl : LPs := LPs.add LP0 17 0 flL
theorem LPfl_ok : LPok Try.prog cfg PKs7 LPfl 17 := LPok.addH LPok.none oneFL fun d h => by
  have hr := fl_run d.1 d.2.1 d.2.2.1 d.2.2.2.1 d.2.2.2.2.1 d.2.2.2.2.2.1 h d.2.2.2.1.length 0 (by omega) d.2.2.2.2.2.2 rounds (by have : d.2.2.2.1.length ≤ 100000 := h; simp only [rounds]; omega)
  exact hr
theorem flH_inj (d d' : FlD) (h : flH d = flH d') : d = d' := by
  obtain ⟨a, b, x, l, s, m, k⟩ := d
  obtain ⟨a', b', x', l', s', m', k'⟩ := d'
  simp only [flH, flHd, boxB, St.mk.injEq, List.cons.injEq, Prod.mk.injEq, AV.slc.injEq, AV.int.injEq, AV.bool.injEq, Blk.mk.injEq, and_true, true_and] at h
  obtain ⟨⟨h1, h2, ⟨h3, h4⟩, h5⟩, h6, h7⟩ := h
  rw [h1, h2, h3, map_inj (fs := Write_tfs) rfl h4, h5, mk_inj (fs := State_tfs) rfl h6, mk_inj (fs := Mark_tfs) rfl h7]
abbrev flushR_id : Nat := 17
abbrev flushR_sh : Shp := [some 3, none, none, none, none]
abbrev flushR_fs : List Lf := [.fl true File_tfs, .fl true Mark_tfs, .fi .i64, .fi .i64, .fi .i64, .fi .i64, .fl true Write_tfs]
abbrev flushR_rsh : Shp := [some 3, some 4]
abbrev flushR_rfs : List Lf := [.fl true File_tfs, .fl true Mark_tfs, .fi .i64, .fi .i64, .fi .i64, .fi .i64, .fi .i64]
noncomputable def flushR_r (s_Files_x : Bool) (s_Files : List File_T) (s_Marks_x : Bool) (s_Marks : List Mark_T) (s_Epoch : Int) (client : Int) (seq : Int) (file : Int) (l_x : Bool) (l : List Write_T) : Option Ret :=
  oK (isSS.dec [AV.agg [AV.slc s_Files_x (List.map (mkV true File_tfs) s_Files), AV.slc s_Marks_x (List.map (mkV true Mark_tfs) s_Marks), AV.int IntKind.i64 s_Epoch], AV.int IntKind.i64 file] []) fun (d0 : (Bool × List (List UInt8 × Int × List UInt8)) × (Bool × List (Int × Int × Int × Int)) × Int × Int) =>
  bK (!isF d0.fst.snd d0.snd.snd.snd) (oK (markedS.dec [AV.agg [AV.slc s_Files_x (List.map (mkV true File_tfs) s_Files), AV.slc s_Marks_x (List.map (mkV true Mark_tfs) s_Marks), AV.int IntKind.i64 s_Epoch], AV.int IntKind.i64 client, AV.agg [AV.int IntKind.i64 seq, AV.int IntKind.i64 2, AV.int IntKind.i64 0, AV.int IntKind.i64 0], AV.int IntKind.i64 0, AV.agg [AV.str [], AV.int IntKind.i64 0, AV.str []]] []) fun (d1 : (Bool × List (List UInt8 × Int × List UInt8)) × (Bool × List (Int × Int × Int × Int)) × Int × Int × Int × Int × Int × Int × Int × List UInt8 × Int × List UInt8) => some { pan := false, res := AV.tup [AV.agg [AV.slc false (List.map (mkV true File_tfs) (markF (mS d1) (mC d1) (mM d1) (mA d1) (mF d1)).fst.snd), AV.slc false (List.map (mkV true Mark_tfs) (markF (mS d1) (mC d1) (mM d1) (mA d1) (mF d1)).snd.fst.snd), AV.int IntKind.i64 (markF (mS d1) (mC d1) (mM d1) (mA d1) (mF d1)).snd.snd], AV.agg [AV.int IntKind.i64 (mM d1).fst, AV.int IntKind.i64 (mM d1).snd.fst, AV.int IntKind.i64 (mM d1).snd.snd.fst, AV.int IntKind.i64 (mM d1).snd.snd.snd]], out := [], new := [] })
    (bK (decide (1 ≤ (↑(List.map (mkV true Write_tfs) l).length : Int)))
      (oK (flL.dec { fr := [(1, AV.int IntKind.i64 client), (3, AV.int IntKind.i64 file), (4, AV.slc l_x (List.map (mkV true Write_tfs) l)), (5, AV.ptr 80 0 0 0), (10, AV.ptr 160 0 0 0), (11, AV.ptr 176 0 0 0), (12, AV.ptr 192 0 0 0), (13, AV.bool (decide ((↑(List.map (mkV true Write_tfs) l).length : Int) ≤ 5))), (14, AV.int IntKind.i64 0)], bs := [(80, { v := 0, k := BK.box, fz := false, sz := 0, es := [AV.slc s_Files_x (List.map (mkV true File_tfs) s_Files), AV.slc s_Marks_x (List.map (mkV true Mark_tfs) s_Marks), AV.int IntKind.i64 s_Epoch] }), (160, { v := 0, k := BK.box, fz := false, sz := 0, es := [AV.slc true [], AV.slc true [], AV.int IntKind.i64 0] }), (176, { v := 0, k := BK.box, fz := false, sz := 0, es := [AV.int IntKind.i64 0, AV.int IntKind.i64 0, AV.int IntKind.i64 0, AV.int IntKind.i64 0] }), (192, { v := 0, k := BK.box, fz := false, sz := 0, es := [AV.int IntKind.i64 seq, AV.int IntKind.i64 0, AV.int IntKind.i64 0, AV.int IntKind.i64 0] })], df := [] }) fun (d2 : Int × Int × Bool × List (Int × List UInt8) × ((Bool × List (List UInt8 × Int × List UInt8)) × (Bool × List (Int × Int × Int × Int)) × Int) × (Int × Int × Int × Int) × Bool) =>
        bK (!flQ d2) (oK (markedS.dec [AV.agg [AV.slc d2.snd.snd.snd.snd.fst.fst.fst (List.map (mkV true File_tfs) d2.snd.snd.snd.snd.fst.fst.snd), AV.slc d2.snd.snd.snd.snd.fst.snd.fst.fst (List.map (mkV true Mark_tfs) d2.snd.snd.snd.snd.fst.snd.fst.snd), AV.int IntKind.i64 d2.snd.snd.snd.snd.fst.snd.snd], AV.int IntKind.i64 d2.fst, AV.agg [AV.int IntKind.i64 d2.snd.snd.snd.snd.snd.fst.fst, AV.int IntKind.i64 1, AV.int IntKind.i64 d2.snd.snd.snd.snd.snd.fst.snd.snd.fst, AV.int IntKind.i64 d2.snd.snd.snd.snd.snd.fst.snd.snd.snd], AV.int IntKind.i64 0, AV.agg [AV.str [], AV.int IntKind.i64 0, AV.str []]] []) fun (d3 : (Bool × List (List UInt8 × Int × List UInt8)) × (Bool × List (Int × Int × Int × Int)) × Int × Int × Int × Int × Int × Int × Int × List UInt8 × Int × List UInt8) => some { pan := false, res := AV.tup [AV.agg [AV.slc false (List.map (mkV true File_tfs) (markF (mS d3) (mC d3) (mM d3) (mA d3) (mF d3)).fst.snd), AV.slc false (List.map (mkV true Mark_tfs) (markF (mS d3) (mC d3) (mM d3) (mA d3) (mF d3)).snd.fst.snd), AV.int IntKind.i64 (markF (mS d3) (mC d3) (mM d3) (mA d3) (mF d3)).snd.snd], AV.agg [AV.int IntKind.i64 (mM d3).fst, AV.int IntKind.i64 (mM d3).snd.fst, AV.int IntKind.i64 (mM d3).snd.snd.fst, AV.int IntKind.i64 (mM d3).snd.snd.snd]], out := [], new := [] })
          (oK (elemAt true File_tfs (List.map (mkV true File_tfs) d2.snd.snd.snd.snd.fst.fst.snd) (IntKind.i64.wrap (d2.snd.fst - 1))) fun (d4 : List UInt8 × Int × List UInt8) =>
            oK (allRS.dec [AV.str d4.snd.snd, AV.slc d2.snd.snd.fst (List.map (mkV true Write_tfs) d2.snd.snd.snd.fst)] []) fun (d5 : List UInt8 × Bool × List (Int × List UInt8)) =>
              oK (markedS.dec [AV.agg [AV.slc d2.snd.snd.snd.snd.fst.fst.fst (List.map (mkV true File_tfs) d2.snd.snd.snd.snd.fst.fst.snd), AV.slc d2.snd.snd.snd.snd.fst.snd.fst.fst (List.map (mkV true Mark_tfs) d2.snd.snd.snd.snd.fst.snd.fst.snd), AV.int IntKind.i64 d2.snd.snd.snd.snd.fst.snd.snd], AV.int IntKind.i64 d2.fst, AV.agg [AV.int IntKind.i64 d2.snd.snd.snd.snd.snd.fst.fst, AV.int IntKind.i64 d2.snd.snd.snd.snd.snd.fst.snd.fst, AV.int IntKind.i64 d2.snd.fst, AV.int IntKind.i64 (minI (IntKind.i64.wrap (d4.snd.fst + 1)) 1073741824)], AV.int IntKind.i64 d2.snd.fst, AV.agg [AV.str d4.fst, AV.int IntKind.i64 (minI (IntKind.i64.wrap (d4.snd.fst + 1)) 1073741824), AV.str (allF d5.fst d5.snd.snd)]] []) fun (d6 : (Bool × List (List UInt8 × Int × List UInt8)) × (Bool × List (Int × Int × Int × Int)) × Int × Int × Int × Int × Int × Int × Int × List UInt8 × Int × List UInt8) => some { pan := false, res := AV.tup [AV.agg [AV.slc false (List.map (mkV true File_tfs) (markF (mS d6) (mC d6) (mM d6) (mA d6) (mF d6)).fst.snd), AV.slc false (List.map (mkV true Mark_tfs) (markF (mS d6) (mC d6) (mM d6) (mA d6) (mF d6)).snd.fst.snd), AV.int IntKind.i64 (markF (mS d6) (mC d6) (mM d6) (mA d6) (mF d6)).snd.snd], AV.agg [AV.int IntKind.i64 (mM d6).fst, AV.int IntKind.i64 (mM d6).snd.fst, AV.int IntKind.i64 (mM d6).snd.snd.fst, AV.int IntKind.i64 (mM d6).snd.snd.snd]], out := [], new := [] }))
      (oK (flL.dec { fr := [(1, AV.int IntKind.i64 client), (3, AV.int IntKind.i64 file), (4, AV.slc l_x (List.map (mkV true Write_tfs) l)), (5, AV.ptr 80 0 0 0), (10, AV.ptr 160 0 0 0), (11, AV.ptr 176 0 0 0), (12, AV.ptr 192 0 0 0), (13, AV.bool false), (14, AV.int IntKind.i64 0)], bs := [(80, { v := 0, k := BK.box, fz := false, sz := 0, es := [AV.slc s_Files_x (List.map (mkV true File_tfs) s_Files), AV.slc s_Marks_x (List.map (mkV true Mark_tfs) s_Marks), AV.int IntKind.i64 s_Epoch] }), (160, { v := 0, k := BK.box, fz := false, sz := 0, es := [AV.slc true [], AV.slc true [], AV.int IntKind.i64 0] }), (176, { v := 0, k := BK.box, fz := false, sz := 0, es := [AV.int IntKind.i64 0, AV.int IntKind.i64 0, AV.int IntKind.i64 0, AV.int IntKind.i64 0] }), (192, { v := 0, k := BK.box, fz := false, sz := 0, es := [AV.int IntKind.i64 seq, AV.int IntKind.i64 0, AV.int IntKind.i64 0, AV.int IntKind.i64 0] })], df := [] }) fun (d7 : Int × Int × Bool × List (Int × List UInt8) × ((Bool × List (List UInt8 × Int × List UInt8)) × (Bool × List (Int × Int × Int × Int)) × Int) × (Int × Int × Int × Int) × Bool) =>
        bK (!flQ d7) (oK (markedS.dec [AV.agg [AV.slc d7.snd.snd.snd.snd.fst.fst.fst (List.map (mkV true File_tfs) d7.snd.snd.snd.snd.fst.fst.snd), AV.slc d7.snd.snd.snd.snd.fst.snd.fst.fst (List.map (mkV true Mark_tfs) d7.snd.snd.snd.snd.fst.snd.fst.snd), AV.int IntKind.i64 d7.snd.snd.snd.snd.fst.snd.snd], AV.int IntKind.i64 d7.fst, AV.agg [AV.int IntKind.i64 d7.snd.snd.snd.snd.snd.fst.fst, AV.int IntKind.i64 1, AV.int IntKind.i64 d7.snd.snd.snd.snd.snd.fst.snd.snd.fst, AV.int IntKind.i64 d7.snd.snd.snd.snd.snd.fst.snd.snd.snd], AV.int IntKind.i64 0, AV.agg [AV.str [], AV.int IntKind.i64 0, AV.str []]] []) fun (d8 : (Bool × List (List UInt8 × Int × List UInt8)) × (Bool × List (Int × Int × Int × Int)) × Int × Int × Int × Int × Int × Int × Int × List UInt8 × Int × List UInt8) => some { pan := false, res := AV.tup [AV.agg [AV.slc false (List.map (mkV true File_tfs) (markF (mS d8) (mC d8) (mM d8) (mA d8) (mF d8)).fst.snd), AV.slc false (List.map (mkV true Mark_tfs) (markF (mS d8) (mC d8) (mM d8) (mA d8) (mF d8)).snd.fst.snd), AV.int IntKind.i64 (markF (mS d8) (mC d8) (mM d8) (mA d8) (mF d8)).snd.snd], AV.agg [AV.int IntKind.i64 (mM d8).fst, AV.int IntKind.i64 (mM d8).snd.fst, AV.int IntKind.i64 (mM d8).snd.snd.fst, AV.int IntKind.i64 (mM d8).snd.snd.snd]], out := [], new := [] })
          (oK (elemAt true File_tfs (List.map (mkV true File_tfs) d7.snd.snd.snd.snd.fst.fst.snd) (IntKind.i64.wrap (d7.snd.fst - 1))) fun (d9 : List UInt8 × Int × List UInt8) =>
            oK (allRS.dec [AV.str d9.snd.snd, AV.slc d7.snd.snd.fst (List.map (mkV true Write_tfs) d7.snd.snd.snd.fst)] []) fun (d10 : List UInt8 × Bool × List (Int × List UInt8)) =>
              oK (markedS.dec [AV.agg [AV.slc d7.snd.snd.snd.snd.fst.fst.fst (List.map (mkV true File_tfs) d7.snd.snd.snd.snd.fst.fst.snd), AV.slc d7.snd.snd.snd.snd.fst.snd.fst.fst (List.map (mkV true Mark_tfs) d7.snd.snd.snd.snd.fst.snd.fst.snd), AV.int IntKind.i64 d7.snd.snd.snd.snd.fst.snd.snd], AV.int IntKind.i64 d7.fst, AV.agg [AV.int IntKind.i64 d7.snd.snd.snd.snd.snd.fst.fst, AV.int IntKind.i64 d7.snd.snd.snd.snd.snd.fst.snd.fst, AV.int IntKind.i64 d7.snd.fst, AV.int IntKind.i64 (minI (IntKind.i64.wrap (d9.snd.fst + 1)) 1073741824)], AV.int IntKind.i64 d7.snd.fst, AV.agg [AV.str d9.fst, AV.int IntKind.i64 (minI (IntKind.i64.wrap (d9.snd.fst + 1)) 1073741824), AV.str (allF d10.fst d10.snd.snd)]] []) fun (d11 : (Bool × List (List UInt8 × Int × List UInt8)) × (Bool × List (Int × Int × Int × Int)) × Int × Int × Int × Int × Int × Int × Int × List UInt8 × Int × List UInt8) => some { pan := false, res := AV.tup [AV.agg [AV.slc false (List.map (mkV true File_tfs) (markF (mS d11) (mC d11) (mM d11) (mA d11) (mF d11)).fst.snd), AV.slc false (List.map (mkV true Mark_tfs) (markF (mS d11) (mC d11) (mM d11) (mA d11) (mF d11)).snd.fst.snd), AV.int IntKind.i64 (markF (mS d11) (mC d11) (mM d11) (mA d11) (mF d11)).snd.snd], AV.agg [AV.int IntKind.i64 (mM d11).fst, AV.int IntKind.i64 (mM d11).snd.fst, AV.int IntKind.i64 (mM d11).snd.snd.fst, AV.int IntKind.i64 (mM d11).snd.snd.snd]], out := [], new := [] })))
theorem flushR_w (s_Files_x : Bool) (s_Files : List File_T) (s_Marks_x : Bool) (s_Marks : List Mark_T) (s_Epoch : Int) (client : Int) (seq : Int) (file : Int) (l_x : Bool) (l : List Write_T) : unitQ Try.prog cfg PKs7 LPfl false 17 (groupA flushR_sh (Tu.mk flushR_fs ((s_Files_x, s_Files), (s_Marks_x, s_Marks), s_Epoch, client, seq, file, (l_x, l)))) [] = flushR_r s_Files_x s_Files s_Marks_x s_Marks s_Epoch client seq file l_x l := by kernel_rfl

end Go.Proofs.Ytihgfpggdkhhaaa
