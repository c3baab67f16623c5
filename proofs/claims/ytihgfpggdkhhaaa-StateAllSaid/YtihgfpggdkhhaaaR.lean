/- A part of the proof: contracts of functions. -/
import Derived.Test.YtihgfpggdkhhaaaB
import Derived.Test.YtihgfpggdkhhaaaAbAny

set_option linter.unusedVariables false
set_option linter.unusedSimpArgs false
set_option maxRecDepth 100000
namespace Go.Proofs.Ytihgfpggdkhhaaa
open Go Go.Ab
def mnHd (s : List UInt8) (i : Int) : St := { fr := [(0, .str s), (3, .int .i64 i)], bs := [], df := [] }
noncomputable def mn_s (s : List UInt8) (i : Int) : Option (St ⊕ (Ex × St)) := stepK Try.prog cfg PKw9 LP0 37 0 (mnHd s i)
noncomputable def mn_s_r (s : List UInt8) (i : Int) : Option (St ⊕ Ex × St) :=
  bK (decide (i < (↑s.length : Int))) (bK (decide (0 ≤ i)) (oK s[i.toNat]? fun (d0 : UInt8) => bK (decide ((↑d0.toNat : Int) < 33)) (some (Sum.inr (Ex.ret, { fr := [(0, AV.str s), (2, AV.bool false)], bs := [], df := [] }))) (bK (decide (0 ≤ i)) (oK s[i.toNat]? fun (d1 : UInt8) => bK (decide (126 < (↑d1.toNat : Int))) (some (Sum.inr (Ex.ret, { fr := [(0, AV.str s), (2, AV.bool false)], bs := [], df := [] }))) (some (Sum.inl { fr := [(0, AV.str s), (3, AV.int IntKind.i64 (IntKind.i64.wrap (i + 1)))], bs := [], df := [] }))) none)) none) (some (Sum.inr (Ex.exit 0, { fr := [(0, AV.str s)], bs := [], df := [] })))
theorem mn_s_w (s : List UInt8) (i : Int) : mn_s s i = mn_s_r s i := by kernel_rfl

def okL (s : List UInt8) : Bool := s.all fun c => decide (33 ≤ c.toNat ∧ c.toNat ≤ 126)
theorem loopsMN : (loopsOf 0 (codeOf Try.prog 37)).map (·.1) = [0] := by kernel_rfl
theorem oneMN : OneLoops Try.prog 37 := by unfold OneLoops; rw [loopsMN]; decide
theorem atMN : At 0 (codeOf Try.prog 37) 0 (.loop (bodyAt Try.prog 37 0)) := at_body oneMN (by rw [loopsMN]; decide)
def mnYes (s : List UInt8) : Ex × St := (.exit 0, { fr := [(0, .str s)], bs := [], df := [] })
def mnNo (s : List UInt8) : Ex × St := (.ret, { fr := [(0, .str s), (2, .bool false)], bs := [], df := [] })
theorem atS (s : List UInt8) (i : Nat) (hi : i < s.length) : s[(i : Int).toNat]? = some s[i] := by rw [Int.toNat_natCast, List.getElem?_eq_getElem hi]
theorem mn_run (s : List UInt8) (hs : s.length ≤ 1000) : ∀ (j i : Nat), i + j = s.length → ∀ (m : Nat), j < m → Runs' Try.prog cfg PKw9 37 0 m (mnHd s i) (if okL (s.drop i) = true then mnYes s else mnNo s)
  | 0, i, hi, m + 1, hm => by
    rw [List.drop_of_length_le (by omega)]
    refine Runs'.done (lp := LP0) LPok.none atMN ((mn_s_w s i).trans ?_)
    unfold mn_s_r
    rw [bK_neg (by exact decide_eq_false (by omega))]
    rfl
  | j + 1, i, hi, m + 1, hm => by
    have hi' : i < s.length := by omega
    have e : s.drop i = s[i] :: s.drop (i + 1) := List.drop_eq_getElem_cons hi'
    rw [e]
    by_cases h1 : s[i].toNat < 33
    · have ef : okL (s[i] :: s.drop (i + 1)) = false := by unfold okL; rw [List.all_cons, decide_eq_false (by omega)]; rfl
      rw [ef]
      refine Runs'.done (lp := LP0) LPok.none atMN ((mn_s_w s i).trans ?_)
      unfold mn_s_r
      rw [bK_pos (by exact decide_eq_true (by omega)), bK_pos (by exact decide_eq_true (by omega))]
      refine (oK_pos (atS s i hi')).trans ?_
      rw [bK_pos (by exact decide_eq_true (by omega))]
      rfl
    · by_cases h2 : 126 < s[i].toNat
      · have ef : okL (s[i] :: s.drop (i + 1)) = false := by unfold okL; rw [List.all_cons, decide_eq_false (by omega)]; rfl
        rw [ef]
        refine Runs'.done (lp := LP0) LPok.none atMN ((mn_s_w s i).trans ?_)
        unfold mn_s_r
        rw [bK_pos (by exact decide_eq_true (by omega)), bK_pos (by exact decide_eq_true (by omega))]
        refine (oK_pos (atS s i hi')).trans ?_
        rw [bK_neg (by exact decide_eq_false (by omega)), bK_pos (by exact decide_eq_true (by omega))]
        refine (oK_pos (atS s i hi')).trans ?_
        rw [bK_pos (by exact decide_eq_true (by omega))]
        rfl
      · have et : okL (s[i] :: s.drop (i + 1)) = okL (s.drop (i + 1)) := by unfold okL; rw [List.all_cons, decide_eq_true (by omega)]; rfl
        rw [et]
        refine Runs'.step (lp := LP0) LPok.none atMN ((mn_s_w s i).trans ?_) (mn_run s hs j (i + 1) (by omega) m (by omega))
        unfold mn_s_r
        rw [bK_pos (by exact decide_eq_true (by omega)), bK_pos (by exact decide_eq_true (by omega))]
        refine (oK_pos (atS s i hi')).trans ?_
        rw [bK_neg (by exact decide_eq_false (by omega)), bK_pos (by exact decide_eq_true (by omega))]
        refine (oK_pos (atS s i hi')).trans ?_
        rw [bK_neg (by exact decide_eq_false (by omega)), w64 (by omega) (by omega)]
        rfl
def mnH (d : List UInt8) : St := mnHd d 0
/-- Bytes of a name. -/
def okF (d : List UInt8) : Bool := okL d
noncomputable def mnL : LP := LP.of (D := List UInt8) mnH (fun d => d.length ≤ 1000) fun d => .ite (okF d) (.leaf (mnYes d)) (.leaf (mnNo d))
noncomputable def LPmn : LPs := LPs.add LP0 37 0 mnL
theorem LPmn_ok : LPok Try.prog cfg PKw9 LPmn 37 := LPok.addH LPok.none oneMN (by
  intro d h
  have hr := mn_run d h d.length 0 (by omega) rounds (by have : d.length ≤ 1000 := h; simp only [rounds]; omega)
  rw [List.drop_zero] at hr
  simp only [Alt.val]
  by_cases hq : okL d = true
  · have hq' : okF d = true := hq
    rw [if_pos hq] at hr; rw [if_pos hq']; exact hr
  · have hq' : ¬ okF d = true := hq
    rw [if_neg hq] at hr; rw [if_neg hq']; exact hr)
theorem mnH_inj (d d' : List UInt8) (h : mnH d = mnH d') : d = d' := by
  simp only [mnH, mnHd, St.mk.injEq, List.cons.injEq, Prod.mk.injEq, AV.str.injEq, and_true, true_and] at h
  exact h
abbrev mayN_id : Nat := 37
abbrev mayN_sh : Shp := [none]
abbrev mayN_fs : List Lf := [.fs]
abbrev mayN_rsh : Shp := [none]
abbrev mayN_rfs : List Lf := [.fb]
noncomputable def mayN_r (s : List UInt8) : Option Ret :=
  oK (mnL.dec { fr := [(0, AV.str s), (3, AV.int IntKind.i64 0)], bs := [], df := [] }) fun (d0 : List UInt8) => bK (okF d0) (bK (decide (1 ≤ (↑d0.length : Int))) (some { pan := false, res := AV.bool (decide ((↑d0.length : Int) ≤ 8)), out := [], new := [] }) (some { pan := false, res := AV.bool false, out := [], new := [] })) (some { pan := false, res := AV.bool false, out := [], new := [] })
theorem mayN_w (s : List UInt8) : unitQ Try.prog cfg PKw9 LPmn false 37 (groupA mayN_sh (Tu.mk mayN_fs s)) [] = mayN_r s := by kernel_rfl

/-- May it be a name? -/
def mayNF (s : List UInt8) : Bool := okL s && (decide (1 ≤ s.length) && decide (s.length ≤ 8))
noncomputable def mayNS : FS := ⟨mayN_sh, mayN_fs, mayN_rsh, mayN_rfs, fun d => d.length ≤ 1000, fun d => mayNF d, none⟩
theorem mayN_v (s : List UInt8) (h : mayNS.pre s) : mayN_r s = some (mayNS.ret s) := by
  show _ = some (mayNS.out (mayNF s))
  unfold mayN_r
  refine oK_lpq (Q := fun z => z = _) mnH_inj s h ?_
  have e : mayNF s = (okF s && (decide (1 ≤ s.length) && decide (s.length ≤ 8))) := rfl
  rw [e]
  refine bK_b (fun c => ?_) (fun c => ?_)
  · rw [c, Bool.true_and]
    refine bK_i (fun c1 => ?_) (fun c1 => ?_)
    · rw [decide_eq_true (show 1 ≤ s.length by omega), Bool.true_and]
      have : decide ((s.length : Int) ≤ 8) = decide (s.length ≤ 8) := decide_eq_decide.2 (by omega)
      rw [this]; rfl
    · rw [decide_eq_false (show ¬ 1 ≤ s.length by omega)]; rfl
  · rw [c]; rfl
theorem mayN_ok : ∀ (d : Tu mayN_fs), mayNS.pre d → unitQ Try.prog cfg PKw9 LPmn false 37 (mayNS.args d) [] = some (mayNS.ret d)
  | s, h => (mayN_w s).trans (mayN_v s h)
noncomputable def PKr1 : PKs := PKw9.add 37 mayNS.pk
theorem PKr1_ok : PKsOk Try.prog PKr1 := PKsOk.fs (cfg := cfg) PKw9_ok (fnOk PKw9_ok 21) 37 rfl LPmn (LPmn_ok.loops) mayNS mayN_ok

def rmHd (x : Bool) (l : List File_T) (i : Int) : St := { fr := [(0, .slc x (l.map (mkV true File_tfs))), (4, .int .i64 i)], bs := [], df := [] }
noncomputable def rm_s (x : Bool) (l : List File_T) (i : Int) : Option (St ⊕ (Ex × St)) := stepK Try.prog cfg PKw9 LP0 40 0 (rmHd x l i)
noncomputable def rm_s_r (x : Bool) (l : List File_T) (i : Int) : Option (St ⊕ Ex × St) :=
  bK (decide (i < (↑(List.map (mkV true File_tfs) l).length : Int))) (oK (elemAt true File_tfs (List.map (mkV true File_tfs) l) i) fun (d0 : List UInt8 × Int × List UInt8) => bK (decide (d0.fst = [])) (some (Sum.inr (Ex.ret, { fr := [(2, AV.int IntKind.i64 (IntKind.i64.wrap (i + 1))), (3, AV.bool true)], bs := [], df := [] }))) (some (Sum.inl { fr := [(0, AV.slc x (List.map (mkV true File_tfs) l)), (4, AV.int IntKind.i64 (IntKind.i64.wrap (i + 1)))], bs := [], df := [] }))) (some (Sum.inr (Ex.exit 0, { fr := [], bs := [], df := [] })))
theorem rm_s_w (x : Bool) (l : List File_T) (i : Int) : rm_s x l i = rm_s_r x l i := by kernel_rfl

theorem loopsRM : (loopsOf 0 (codeOf Try.prog 40)).map (·.1) = [0] := by kernel_rfl
theorem oneRM : OneLoops Try.prog 40 := by unfold OneLoops; rw [loopsRM]; decide
theorem atRM : At 0 (codeOf Try.prog 40) 0 (.loop (bodyAt Try.prog 40 0)) := at_body oneRM (by rw [loopsRM]; decide)
/-- Where the first of a name is, behind so many; 0: nowhere. -/
def posN (nm : List UInt8) : List File_T → Nat → Nat
  | [], _ => 0
  | f :: l, i => if f.1 = nm then i + 1 else posN nm l (i + 1)
theorem posN_le (nm : List UInt8) : ∀ (l : List File_T) (i : Nat), posN nm l i = 0 ∨ (i < posN nm l i ∧ posN nm l i ≤ i + l.length)
  | [], i => .inl rfl
  | f :: l, i => by
    unfold posN
    split
    · right; simp only [List.length_cons]; omega
    · rcases posN_le nm l (i + 1) with h | h
      · exact .inl h
      · right; simp only [List.length_cons]; omega
def rmNo : Ex × St := (.exit 0, { fr := [], bs := [], df := [] })
def rmYes (n : Nat) : Ex × St := (.ret, { fr := [(2, .int .i64 n), (3, .bool true)], bs := [], df := [] })
theorem rm_run (x : Bool) (l : List File_T) (hl : l.length ≤ 100000) : ∀ (j i : Nat), i + j = l.length → ∀ (m : Nat), j < m → Runs' Try.prog cfg PKw9 40 0 m (rmHd x l i) (if posN [] (l.drop i) i = 0 then rmNo else rmYes (posN [] (l.drop i) i))
  | 0, i, hi, m + 1, hm => by
    rw [List.drop_of_length_le (by omega)]
    refine Runs'.done (lp := LP0) LPok.none atRM ((rm_s_w x l i).trans ?_)
    unfold rm_s_r
    rw [bK_neg (by rw [List.length_map]; exact decide_eq_false (by omega))]
    rfl
  | j + 1, i, hi, m + 1, hm => by
    have hi' : i < l.length := by omega
    have e : l.drop i = l[i] :: l.drop (i + 1) := List.drop_eq_getElem_cons hi'
    have hg : l.getD (i : Int).toNat ([], 0, []) = l[i] := by rw [Int.toNat_natCast, getD_at hi']
    rw [e]
    by_cases h1 : l[i].1 = []
    · have ep : posN [] (l[i] :: l.drop (i + 1)) i = i + 1 := by unfold posN; rw [if_pos h1]
      rw [ep, if_neg (by omega)]
      refine Runs'.done (lp := LP0) LPok.none atRM ((rm_s_w x l i).trans ?_)
      unfold rm_s_r
      rw [bK_pos (by rw [List.length_map]; exact decide_eq_true (by omega))]
      refine (oK_atD rfl ([], 0, []) (by omega) (by omega)).trans ?_
      rw [hg, bK_pos (by exact decide_eq_true h1), w64 (by omega) (by omega)]
      rfl
    · have ep : posN [] (l[i] :: l.drop (i + 1)) i = posN [] (l.drop (i + 1)) (i + 1) := by rw [posN, if_neg h1]
      rw [ep]
      refine Runs'.step (lp := LP0) LPok.none atRM ((rm_s_w x l i).trans ?_) (rm_run x l hl j (i + 1) (by omega) m (by omega))
      unfold rm_s_r
      rw [bK_pos (by rw [List.length_map]; exact decide_eq_true (by omega))]
      refine (oK_atD rfl ([], 0, []) (by omega) (by omega)).trans ?_
      rw [hg, bK_neg (by exact decide_eq_false h1), w64 (by omega) (by omega)]
      rfl
abbrev RmD : Type := Bool × List File_T
def rmH (d : RmD) : St := rmHd d.1 d.2 0
/-- Where the first of a name is. -/
def posF (nm : List UInt8) (l : List File_T) : Nat := posN nm l 0
def posB (nm : List UInt8) (l : List File_T) : Bool := decide (posN nm l 0 = 0)
noncomputable def rmL : LP := LP.of (D := RmD) rmH (fun d => d.2.length ≤ 100000) fun d => .ite (posB [] d.2) (.leaf rmNo) (.leaf (rmYes (posF [] d.2)))
noncomputable def LPrm : LPs := LPs.add LP0 40 0 rmL
theorem LPrm_ok : LPok Try.prog cfg PKw9 LPrm 40 := LPok.addH LPok.none oneRM (by
  intro d h
  have hr := rm_run d.1 d.2 h d.2.length 0 (by omega) rounds (by have : d.2.length ≤ 100000 := h; simp only [rounds]; omega)
  rw [List.drop_zero] at hr
  simp only [Alt.val]
  by_cases hq : posN [] d.2 0 = 0
  · have hq' : posB [] d.2 = true := decide_eq_true hq
    rw [if_pos hq] at hr; rw [if_pos hq']; exact hr
  · have hq' : ¬ posB [] d.2 = true := by intro hh; exact hq (of_decide_eq_true hh)
    rw [if_neg hq] at hr; rw [if_neg hq']; exact hr)
theorem rmH_inj (d d' : RmD) (h : rmH d = rmH d') : d = d' := by
  obtain ⟨x, l⟩ := d
  obtain ⟨x', l'⟩ := d'
  simp only [rmH, rmHd, St.mk.injEq, List.cons.injEq, Prod.mk.injEq, AV.slc.injEq, and_true, true_and] at h
  rw [h.1, map_inj (fs := File_tfs) rfl h.2]
abbrev room_id : Nat := 40
abbrev room_sh : Shp := [none]
abbrev room_fs : List Lf := [.fl true File_tfs]
abbrev room_rsh : Shp := [none, none]
abbrev room_rfs : List Lf := [.fi .i64, .fb]
noncomputable def room_r (l_x : Bool) (l : List File_T) : Option Ret :=
  oK (rmL.dec { fr := [(0, AV.slc l_x (List.map (mkV true File_tfs) l)), (4, AV.int IntKind.i64 0)], bs := [], df := [] }) fun (d0 : Bool × List (List UInt8 × Int × List UInt8)) => bK (posB [] d0.snd) (some { pan := false, res := AV.tup [AV.int IntKind.i64 0, AV.bool false], out := [], new := [] }) (some { pan := false, res := AV.tup [AV.int IntKind.i64 (↑(posF [] d0.snd) : Int), AV.bool true], out := [], new := [] })
theorem room_w (l_x : Bool) (l : List File_T) : unitQ Try.prog cfg PKw9 LPrm false 40 (groupA room_sh (Tu.mk room_fs (l_x, l))) [] = room_r l_x l := by kernel_rfl

/-- Where there is room. -/
noncomputable def roomF (l : List File_T) : Int × Bool := if posB [] l = true then (0, false) else ((posF [] l : Int), true)
noncomputable def roomS : FS := ⟨room_sh, room_fs, room_rsh, room_rfs, fun d => d.2.length ≤ 100000, fun d => roomF d.2, none⟩
abbrev isS_id : Nat := 47
abbrev isS_sh : Shp := [some 3, none]
abbrev isS_fs : List Lf := [.fl true File_tfs, .fl true Mark_tfs, .fi .i64, .fi .i64]
abbrev isS_rsh : Shp := [none]
abbrev isS_rfs : List Lf := [.fb]
noncomputable def isS_r (s_Files_x : Bool) (s_Files : List File_T) (s_Marks_x : Bool) (s_Marks : List Mark_T) (s_Epoch : Int) (file : Int) : Option Ret :=
  bK (decide (1 ≤ file)) (bK (decide (file ≤ (↑(List.map (mkV true File_tfs) s_Files).length : Int))) (oK (elemAt true File_tfs (List.map (mkV true File_tfs) s_Files) (IntKind.i64.wrap (file - 1))) fun (d0 : List UInt8 × Int × List UInt8) => some { pan := false, res := AV.bool !decide (d0.fst = []), out := [], new := [] }) (some { pan := false, res := AV.bool false, out := [], new := [] })) (some { pan := false, res := AV.bool false, out := [], new := [] })
theorem isS_w (s_Files_x : Bool) (s_Files : List File_T) (s_Marks_x : Bool) (s_Marks : List Mark_T) (s_Epoch : Int) (file : Int) : unitQ Try.prog cfg PKw9 LP0 false 47 (groupA isS_sh (Tu.mk isS_fs ((s_Files_x, s_Files), (s_Marks_x, s_Marks), s_Epoch, file))) [] = isS_r s_Files_x s_Files s_Marks_x s_Marks s_Epoch file := by kernel_rfl

abbrev newS_id : Nat := 28
abbrev newS_sh : Shp := []
abbrev newS_fs : List Lf := []
abbrev newS_rsh : Shp := [some 3]
abbrev newS_rfs : List Lf := [.fl true File_tfs, .fl true Mark_tfs, .fi .i64]
noncomputable def newS_r  : Option Ret :=
  some { pan := false, res := AV.agg [AV.slc false [AV.agg [AV.str [], AV.int IntKind.i64 0, AV.str []], AV.agg [AV.str [], AV.int IntKind.i64 0, AV.str []], AV.agg [AV.str [], AV.int IntKind.i64 0, AV.str []], AV.agg [AV.str [], AV.int IntKind.i64 0, AV.str []], AV.agg [AV.str [], AV.int IntKind.i64 0, AV.str []], AV.agg [AV.str [], AV.int IntKind.i64 0, AV.str []]], AV.slc false [AV.agg [AV.int IntKind.i64 0, AV.int IntKind.i64 0, AV.int IntKind.i64 0, AV.int IntKind.i64 0], AV.agg [AV.int IntKind.i64 0, AV.int IntKind.i64 0, AV.int IntKind.i64 0, AV.int IntKind.i64 0], AV.agg [AV.int IntKind.i64 0, AV.int IntKind.i64 0, AV.int IntKind.i64 0, AV.int IntKind.i64 0]], AV.int IntKind.i64 0], out := [], new := [] }
theorem newS_w  : unitQ Try.prog cfg PKw9 LP0 false 28 (groupA newS_sh (Tu.mk newS_fs ())) [] = newS_r  := by kernel_rfl

abbrev bootR_id : Nat := 23
abbrev bootR_sh : Shp := [some 3]
abbrev bootR_fs : List Lf := [.fl true File_tfs, .fl true Mark_tfs, .fi .i64]
abbrev bootR_rsh : Shp := [some 3]
abbrev bootR_rfs : List Lf := [.fl true File_tfs, .fl true Mark_tfs, .fi .i64]
noncomputable def bootR_r (s_Files_x : Bool) (s_Files : List File_T) (s_Marks_x : Bool) (s_Marks : List Mark_T) (s_Epoch : Int) : Option Ret :=
  some { pan := false, res := AV.agg [AV.slc s_Files_x (List.map (mkV true File_tfs) s_Files), AV.slc s_Marks_x (List.map (mkV true Mark_tfs) s_Marks), AV.int IntKind.i64 (minI (IntKind.i64.wrap (s_Epoch + 1)) 1073741824)], out := [], new := [] }
theorem bootR_w (s_Files_x : Bool) (s_Files : List File_T) (s_Marks_x : Bool) (s_Marks : List Mark_T) (s_Epoch : Int) : unitQ Try.prog cfg PKw9 LP0 false 23 (groupA bootR_sh (Tu.mk bootR_fs ((s_Files_x, s_Files), (s_Marks_x, s_Marks), s_Epoch))) [] = bootR_r s_Files_x s_Files s_Marks_x s_Marks s_Epoch := by kernel_rfl

abbrev putM_id : Nat := 67
abbrev putM_sh : Shp := [none, none, some 4]
abbrev putM_fs : List Lf := [.fl true Mark_tfs, .fi .i64, .fi .i64, .fi .i64, .fi .i64, .fi .i64]
abbrev putM_rsh : Shp := [none]
abbrev putM_rfs : List Lf := [.fl true Mark_tfs]
noncomputable def putM_r (l_x : Bool) (l : List Mark_T) (client : Int) (m_Seq : Int) (m_Err : Int) (m_File : Int) (m_Ver : Int) : Option Ret :=
  bK ((List.map (mkV true Mark_tfs) l).all fun (y : AV) => decide (y.cells.length = 4))
  (bK (List.map (mkV true Mark_tfs) l).isEmpty (bK (decide (1 ≤ client)) (bK (decide (client ≤ (↑(List.map (mkV true Mark_tfs) l).length : Int))) (oK (elemAt true Mark_tfs (List.map (mkV true Mark_tfs) l) (IntKind.i64.wrap (client - 1))) fun (d0 : Int × Int × Int × Int) => bK (decide (d0.fst < m_Seq)) (bK (decide (0 ≤ IntKind.i64.wrap (client - 1) ∧ IntKind.i64.wrap (client - 1) < 0)) none none) (some { pan := false, res := AV.slc false [], out := [], new := [] })) (some { pan := false, res := AV.slc false [], out := [], new := [] })) (some { pan := false, res := AV.slc false [], out := [], new := [] }))
    (bK (true && bytesFit Try.prog 40 (0 + (List.map (mkV true Mark_tfs) l).length))
      (bK (decide (1 ≤ client)) (bK (decide (client ≤ (↑(List.map (mkV true Mark_tfs) l).length : Int))) (oK (elemAt true Mark_tfs (List.map (mkV true Mark_tfs) l) (IntKind.i64.wrap (client - 1))) fun (d1 : Int × Int × Int × Int) => bK (decide (d1.fst < m_Seq)) (bK (decide (0 ≤ IntKind.i64.wrap (client - 1) ∧ IntKind.i64.wrap (client - 1) < (↑(0 + (List.map (mkV true Mark_tfs) l).length) : Int))) (oK (stRow ([] ++ List.map (mkV true Mark_tfs) l) (0 + (IntKind.i64.wrap (client - 1)).toNat) 0 [AV.int IntKind.i64 m_Seq, AV.int IntKind.i64 m_Err, AV.int IntKind.i64 m_File, AV.int IntKind.i64 m_Ver]) fun (d2 : List AV) => bK (decide (0 + (0 + (List.map (mkV true Mark_tfs) l).length) ≤ d2.length)) (some { pan := false, res := AV.slc false (List.take (0 + (List.map (mkV true Mark_tfs) l).length) (List.drop 0 d2)), out := [], new := [] }) none) none) (bK (decide (0 + (0 + (List.map (mkV true Mark_tfs) l).length) ≤ ([] ++ List.map (mkV true Mark_tfs) l).length)) (some { pan := false, res := AV.slc false (List.take (0 + (List.map (mkV true Mark_tfs) l).length) (List.drop 0 ([] ++ List.map (mkV true Mark_tfs) l))), out := [], new := [] }) none)) (bK (decide (0 + (0 + (List.map (mkV true Mark_tfs) l).length) ≤ ([] ++ List.map (mkV true Mark_tfs) l).length)) (some { pan := false, res := AV.slc false (List.take (0 + (List.map (mkV true Mark_tfs) l).length) (List.drop 0 ([] ++ List.map (mkV true Mark_tfs) l))), out := [], new := [] }) none))
        (bK (decide (0 + (0 + (List.map (mkV true Mark_tfs) l).length) ≤ ([] ++ List.map (mkV true Mark_tfs) l).length)) (some { pan := false, res := AV.slc false (List.take (0 + (List.map (mkV true Mark_tfs) l).length) (List.drop 0 ([] ++ List.map (mkV true Mark_tfs) l))), out := [], new := [] }) none))
      none))
  none
theorem putM_w (l_x : Bool) (l : List Mark_T) (client : Int) (m_Seq : Int) (m_Err : Int) (m_File : Int) (m_Ver : Int) : unitQ Try.prog cfg PKw9 LP0 false 67 (groupA putM_sh (Tu.mk putM_fs ((l_x, l), client, m_Seq, m_Err, m_File, m_Ver))) [] = putM_r l_x l client m_Seq m_Err m_File m_Ver := by kernel_rfl

theorem room_v (l_x : Bool) (l : List File_T) (h : roomS.pre (l_x, l)) : room_r l_x l = some (roomS.ret (l_x, l)) := by
  show _ = some (roomS.out (roomF l))
  unfold room_r
  refine oK_lpq (Q := fun z => z = _) rmH_inj (l_x, l) h ?_
  show bK (posB [] l) _ _ = _
  unfold roomF
  cases posB [] l <;> rfl
theorem room_ok : ∀ (d : Tu room_fs), roomS.pre d → unitQ Try.prog cfg PKw9 LPrm false 40 (roomS.args d) [] = some (roomS.ret d)
  | (l_x, l), h => (room_w l_x l).trans (room_v l_x l h)
noncomputable def PKr2 : PKs := PKw9.add 40 roomS.pk
theorem PKr2_ok : PKsOk Try.prog PKr2 := PKsOk.fs (cfg := cfg) PKw9_ok (fnOk PKw9_ok 21) 40 rfl LPrm (LPrm_ok.loops) roomS room_ok

def isF (l : List File_T) (n : Int) : Bool := decide (1 ≤ n ∧ n ≤ (l.length : Int)) && !decide ((l.getD (n - 1).toNat ([], 0, [])).1 = [])
def isSS : FS := ⟨isS_sh, isS_fs, isS_rsh, isS_rfs, fun d => d.1.2.length ≤ 100000, fun d => isF d.1.2 d.2.2.2, none⟩
theorem isS_v (s_Files_x : Bool) (s_Files : List File_T) (s_Marks_x : Bool) (s_Marks : List Mark_T) (s_Epoch : Int) (file : Int) (h : isSS.pre ((s_Files_x, s_Files), (s_Marks_x, s_Marks), s_Epoch, file)) : isS_r s_Files_x s_Files s_Marks_x s_Marks s_Epoch file = some (isSS.ret ((s_Files_x, s_Files), (s_Marks_x, s_Marks), s_Epoch, file)) := by
  have h' : s_Files.length ≤ 100000 := h
  show _ = some (isSS.out (isF s_Files file))
  unfold isS_r isF
  simp only [List.length_map]
  refine bK_i (fun c1 => bK_i (fun c2 => ?_) (fun c2 => ?_)) (fun c1 => ?_)
  · rw [w64 (by omega) (by omega)]
    refine (oK_atD rfl ([], 0, []) (by omega) (by omega)).trans ?_
    rw [decide_eq_true (show 1 ≤ file ∧ file ≤ (s_Files.length : Int) from ⟨c1, c2⟩), Bool.true_and]
    rfl
  · rw [decide_eq_false (fun hh => c2 hh.2)]; rfl
  · rw [decide_eq_false (fun hh => c1 hh.1)]; rfl
theorem isS_ok : ∀ (d : Tu isS_fs), isSS.pre d → unitQ Try.prog cfg PKw9 LP0 false 47 (isSS.args d) [] = some (isSS.ret d)
  | ((s_Files_x, s_Files), (s_Marks_x, s_Marks), s_Epoch, file), h => (isS_w s_Files_x s_Files s_Marks_x s_Marks s_Epoch file).trans (isS_v s_Files_x s_Files s_Marks_x s_Marks s_Epoch file h)
noncomputable def PKr3 : PKs := PKw9.add 47 isSS.pk
theorem PKr3_ok : PKsOk Try.prog PKr3 := PKsOk.fs (cfg := cfg) PKw9_ok (fnOk PKw9_ok 21) 47 rfl LP0 fLoops_none isSS isS_ok

def zF : File_T := ([], 0, [])
def zM : Mark_T := (0, 0, 0, 0)
def newF : State_T := ((false, [zF, zF, zF, zF, zF, zF]), (false, [zM, zM, zM]), 0)
def newSS : FS := ⟨newS_sh, newS_fs, newS_rsh, newS_rfs, fun _ => True, fun _ => newF, none⟩
theorem newS_v (h : True) : newS_r = some (newSS.ret ()) := rfl
theorem newS_ok : ∀ (d : Tu newS_fs), newSS.pre d → unitQ Try.prog cfg PKw9 LP0 false 28 (newSS.args d) [] = some (newSS.ret d)
  | (), h => (newS_w ).trans (newS_v  h)
noncomputable def PKr4 : PKs := PKw9.add 28 newSS.pk
theorem PKr4_ok : PKsOk Try.prog PKr4 := PKsOk.fs (cfg := cfg) PKw9_ok (fnOk PKw9_ok 21) 28 rfl LP0 fLoops_none newSS newS_ok

def bootF (s : State_T) : State_T := (s.1, s.2.1, minI (IntKind.i64.wrap (s.2.2 + 1)) 1073741824)
def bootRS : FS := ⟨bootR_sh, bootR_fs, bootR_rsh, bootR_rfs, fun _ => True, fun d => bootF d, none⟩
theorem bootR_v (s_Files_x : Bool) (s_Files : List File_T) (s_Marks_x : Bool) (s_Marks : List Mark_T) (s_Epoch : Int) (h : bootRS.pre ((s_Files_x, s_Files), (s_Marks_x, s_Marks), s_Epoch)) : bootR_r s_Files_x s_Files s_Marks_x s_Marks s_Epoch = some (bootRS.ret ((s_Files_x, s_Files), (s_Marks_x, s_Marks), s_Epoch)) := rfl
theorem bootR_ok : ∀ (d : Tu bootR_fs), bootRS.pre d → unitQ Try.prog cfg PKw9 LP0 false 23 (bootRS.args d) [] = some (bootRS.ret d)
  | ((s_Files_x, s_Files), (s_Marks_x, s_Marks), s_Epoch), h => (bootR_w s_Files_x s_Files s_Marks_x s_Marks s_Epoch).trans (bootR_v s_Files_x s_Files s_Marks_x s_Marks s_Epoch h)
noncomputable def PKr5 : PKs := PKw9.add 23 bootRS.pk
theorem PKr5_ok : PKsOk Try.prog PKr5 := PKsOk.fs (cfg := cfg) PKw9_ok (fnOk PKw9_ok 21) 23 rfl LP0 fLoops_none bootRS bootR_ok

theorem bytesM : Try.prog.bytesOf 40 = 32 := by kernel_rfl
theorem fitM {n : Nat} (h : n ≤ 1000000) : bytesFit Try.prog 40 n = true := by
  simp only [bytesFit, bytesM, decide_eq_true_eq]; omega
theorem ldSeq (l : List Mark_T) (i : Nat) (h : i < l.length) : ldRow [Lf.fi .i64] (l.map (mkV true Mark_tfs)) i 0 = some (l.getD i (0, 0, 0, 0)).1 := by
  simp [ldRow, h, ldCells, mkV, mkA, AV.cells, Tu.mk, Lf.mk, Tu.dec, Lf.dec, List.getD]
theorem stMark (l : List Mark_T) (i : Nat) (h : i < l.length) (m : Mark_T) : stRow (l.map (mkV true Mark_tfs)) i 0 [.int .i64 m.1, .int .i64 m.2.1, .int .i64 m.2.2.1, .int .i64 m.2.2.2] = some ((l.set i m).map (mkV true Mark_tfs)) := by
  simp [stRow, h, splice, mkV, mkA, AV.cells, AV.recell, Tu.mk, Lf.mk, List.map_set]
/-- The marks behind another one. -/
def putL (l : List Mark_T) (c : Int) (m : Mark_T) : List Mark_T := if 1 ≤ c ∧ c ≤ (l.length : Int) ∧ (l.getD (c - 1).toNat (0, 0, 0, 0)).1 < m.1 then l.set (c - 1).toNat m else l
theorem putL_len (l : List Mark_T) (c : Int) (m : Mark_T) : (putL l c m).length = l.length := by unfold putL; split <;> simp
def putMS : FS := ⟨putM_sh, putM_fs, putM_rsh, putM_rfs, fun d => d.1.2.length ≤ 100000, fun d => (false, putL d.1.2 d.2.1 d.2.2), none⟩
theorem putM_v (l_x : Bool) (l : List Mark_T) (client : Int) (m_Seq : Int) (m_Err : Int) (m_File : Int) (m_Ver : Int) (h : putMS.pre ((l_x, l), client, m_Seq, m_Err, m_File, m_Ver)) : putM_r l_x l client m_Seq m_Err m_File m_Ver = some (putMS.ret ((l_x, l), client, m_Seq, m_Err, m_File, m_Ver)) := by
  have h' : l.length ≤ 100000 := h
  show _ = some (putMS.out (false, putL l client (m_Seq, m_Err, m_File, m_Ver)))
  unfold putM_r
  simp only [List.length_map, List.nil_append, Nat.zero_add]
  rw [bK_pos (by simp [AV.cells, mkV, mkA, Tu.mk])]
  cases l with
  | nil =>
    refine bK_tq (Q := fun z => z = _) rfl ?_
    have e : putL [] client (m_Seq, m_Err, m_File, m_Ver) = [] := by unfold putL; split <;> rfl
    rw [e]
    refine bK_i (fun _ => ?_) (fun _ => rfl)
    exact bK_i (fun c => by simp at c; omega) (fun _ => rfl)
  | cons d l =>
    refine bK_fq (Q := fun z => z = _) rfl ?_
    generalize hL : d :: l = L at h' ⊢
    have hne : L.isEmpty = false := by rw [← hL]; rfl
    have ht : List.take L.length (List.drop 0 (List.map (mkV true Mark_tfs) L)) = List.map (mkV true Mark_tfs) L := by rw [List.drop_zero, List.take_of_length_le (by simp)]
    rw [ht, bK_pos (by rw [Bool.true_and]; exact fitM (by omega))]
    refine bK_i (fun c1 => ?_) (fun c1 => ?_)
    · refine bK_i (fun c2 => ?_) (fun c2 => ?_)
      · have c2' : client ≤ (L.length : Int) := by simpa using c2
        have hi : (client - 1).toNat < L.length := by omega
        rw [w64 (n := client - 1) (by omega) (by omega)]
        refine (oK_atD rfl (0, 0, 0, 0) (by omega) hi).trans ?_
        refine bK_i (fun c3 => ?_) (fun c3 => ?_)
        · rw [bK_pos (by simp; omega)]
          refine (oK_pos (stMark L _ hi (m_Seq, m_Err, m_File, m_Ver))).trans ?_
          rw [bK_pos (by simp)]
          unfold putL
          rw [if_pos ⟨c1, c2', c3⟩, List.drop_zero, List.take_of_length_le (by simp)]
          rfl
        · rw [bK_pos (by simp)]
          unfold putL
          rw [if_neg (fun hh => c3 hh.2.2)]
          rfl
      · rw [bK_pos (by simp)]
        unfold putL
        rw [if_neg (fun hh => c2 (by simpa using hh.2.1))]
        rfl
    · rw [bK_pos (by simp)]
      unfold putL
      rw [if_neg (fun hh => c1 hh.1)]
      rfl
theorem putM_ok : ∀ (d : Tu putM_fs), putMS.pre d → unitQ Try.prog cfg PKw9 LP0 false 67 (putMS.args d) [] = some (putMS.ret d)
  | ((l_x, l), client, m_Seq, m_Err, m_File, m_Ver), h => (putM_w l_x l client m_Seq m_Err m_File m_Ver).trans (putM_v l_x l client m_Seq m_Err m_File m_Ver h)
noncomputable def PKr6 : PKs := PKw9.add 67 putMS.pk
theorem PKr6_ok : PKsOk Try.prog PKr6 := PKsOk.fs (cfg := cfg) PKw9_ok (fnOk PKw9_ok 21) 67 rfl LP0 fLoops_none putMS putM_ok

noncomputable def PKs1 : PKs := PKr1.add 40 roomS.pk
theorem PKs1_ok : PKsOk Try.prog PKs1 := PKsOk.take PKr1_ok PKr2_ok rfl
noncomputable def PKs2 : PKs := PKs1.add 47 isSS.pk
theorem PKs2_ok : PKsOk Try.prog PKs2 := PKsOk.take PKs1_ok PKr3_ok rfl
noncomputable def PKs3 : PKs := PKs2.add 28 newSS.pk
theorem PKs3_ok : PKsOk Try.prog PKs3 := PKsOk.take PKs2_ok PKr4_ok rfl
noncomputable def PKs4 : PKs := PKs3.add 23 bootRS.pk
theorem PKs4_ok : PKsOk Try.prog PKs4 := PKsOk.take PKs3_ok PKr5_ok rfl
noncomputable def PKs5 : PKs := PKs4.add 67 putMS.pk
theorem PKs5_ok : PKsOk Try.prog PKs5 := PKsOk.take PKs4_ok PKr6_ok rfl
def fiHd (x : Bool) (l : List File_T) (nm : List UInt8) (i : Int) : St := { fr := [(0, .slc x (l.map (mkV true File_tfs))), (1, .str nm), (6, .int .i64 i)], bs := [], df := [] }
noncomputable def fi_s (x : Bool) (l : List File_T) (nm : List UInt8) (i : Int) : Option (St ⊕ (Ex × St)) := stepK Try.prog cfg PKs5 LP0 39 0 (fiHd x l nm i)
noncomputable def fi_s_r (x : Bool) (l : List File_T) (nm : List UInt8) (i : Int) : Option (St ⊕ Ex × St) :=
  bK (decide (i < (↑(List.map (mkV true File_tfs) l).length : Int))) (oK (mayNS.dec [AV.str nm] []) fun (d0 : List UInt8) => bK (mayNF d0) (oK (elemAt true File_tfs (List.map (mkV true File_tfs) l) i) fun (d1 : List UInt8 × Int × List UInt8) => bK (decide (d1.fst = nm)) (some (Sum.inr (Ex.ret, { fr := [(4, AV.int IntKind.i64 (IntKind.i64.wrap (i + 1))), (5, AV.bool true)], bs := [], df := [] }))) (some (Sum.inl { fr := [(0, AV.slc x (List.map (mkV true File_tfs) l)), (1, AV.str nm), (6, AV.int IntKind.i64 (IntKind.i64.wrap (i + 1)))], bs := [], df := [] }))) (some (Sum.inr (Ex.exit 0, { fr := [], bs := [], df := [] })))) (some (Sum.inr (Ex.exit 0, { fr := [], bs := [], df := [] })))
theorem fi_s_w (x : Bool) (l : List File_T) (nm : List UInt8) (i : Int) : fi_s x l nm i = fi_s_r x l nm i := by kernel_rfl

abbrev marked_id : Nat := 38
abbrev marked_sh : Shp := [some 3, none, some 4, none, some 3]
abbrev marked_fs : List Lf := [.fl true File_tfs, .fl true Mark_tfs, .fi .i64, .fi .i64, .fi .i64, .fi .i64, .fi .i64, .fi .i64, .fi .i64, .fs, .fi .i64, .fs]
abbrev marked_rsh : Shp := [some 3, some 4]
abbrev marked_rfs : List Lf := [.fl true File_tfs, .fl true Mark_tfs, .fi .i64, .fi .i64, .fi .i64, .fi .i64, .fi .i64]
noncomputable def marked_r (s_Files_x : Bool) (s_Files : List File_T) (s_Marks_x : Bool) (s_Marks : List Mark_T) (s_Epoch : Int) (client : Int) (m_Seq : Int) (m_Err : Int) (m_File : Int) (m_Ver : Int) (at_ : Int) (f_Name : List UInt8) (f_Ver : Int) (f_Body : List UInt8) : Option Ret :=
  oK (putMS.dec [AV.slc s_Marks_x (List.map (mkV true Mark_tfs) s_Marks), AV.int IntKind.i64 client, AV.agg [AV.int IntKind.i64 m_Seq, AV.int IntKind.i64 m_Err, AV.int IntKind.i64 m_File, AV.int IntKind.i64 m_Ver]] []) fun (d0 : (Bool × List (Int × Int × Int × Int)) × Int × Int × Int × Int × Int) =>
  bK ((List.map (mkV true File_tfs) s_Files).all fun (y : AV) => decide (y.cells.length = 3))
    (bK (List.map (mkV true File_tfs) s_Files).isEmpty (bK (decide (0 < at_)) (bK (decide (0 ≤ IntKind.i64.wrap (at_ - 1) ∧ IntKind.i64.wrap (at_ - 1) < 0)) none none) (some { pan := false, res := AV.tup [AV.agg [AV.slc false [], AV.slc false (List.map (mkV true Mark_tfs) (putL d0.fst.snd d0.snd.fst d0.snd.snd)), AV.int IntKind.i64 s_Epoch], AV.agg [AV.int IntKind.i64 m_Seq, AV.int IntKind.i64 m_Err, AV.int IntKind.i64 m_File, AV.int IntKind.i64 m_Ver]], out := [], new := [] }))
      (bK (true && bytesFit Try.prog 56 (0 + (List.map (mkV true File_tfs) s_Files).length)) (bK (decide (0 < at_)) (bK (decide (0 ≤ IntKind.i64.wrap (at_ - 1) ∧ IntKind.i64.wrap (at_ - 1) < (↑(0 + (List.map (mkV true File_tfs) s_Files).length) : Int))) (oK (stRow ([] ++ List.map (mkV true File_tfs) s_Files) (0 + (IntKind.i64.wrap (at_ - 1)).toNat) 0 [AV.str f_Name, AV.int IntKind.i64 f_Ver, AV.str f_Body]) fun (d1 : List AV) => bK (decide (0 + (0 + (List.map (mkV true File_tfs) s_Files).length) ≤ d1.length)) (some { pan := false, res := AV.tup [AV.agg [AV.slc false (List.take (0 + (List.map (mkV true File_tfs) s_Files).length) (List.drop 0 d1)), AV.slc false (List.map (mkV true Mark_tfs) (putL d0.fst.snd d0.snd.fst d0.snd.snd)), AV.int IntKind.i64 s_Epoch], AV.agg [AV.int IntKind.i64 m_Seq, AV.int IntKind.i64 m_Err, AV.int IntKind.i64 m_File, AV.int IntKind.i64 m_Ver]], out := [], new := [] }) none) none) (bK (decide (0 + (0 + (List.map (mkV true File_tfs) s_Files).length) ≤ ([] ++ List.map (mkV true File_tfs) s_Files).length)) (some { pan := false, res := AV.tup [AV.agg [AV.slc false (List.take (0 + (List.map (mkV true File_tfs) s_Files).length) (List.drop 0 ([] ++ List.map (mkV true File_tfs) s_Files))), AV.slc false (List.map (mkV true Mark_tfs) (putL d0.fst.snd d0.snd.fst d0.snd.snd)), AV.int IntKind.i64 s_Epoch], AV.agg [AV.int IntKind.i64 m_Seq, AV.int IntKind.i64 m_Err, AV.int IntKind.i64 m_File, AV.int IntKind.i64 m_Ver]], out := [], new := [] }) none)) none))
    none
theorem marked_w (s_Files_x : Bool) (s_Files : List File_T) (s_Marks_x : Bool) (s_Marks : List Mark_T) (s_Epoch : Int) (client : Int) (m_Seq : Int) (m_Err : Int) (m_File : Int) (m_Ver : Int) (at_ : Int) (f_Name : List UInt8) (f_Ver : Int) (f_Body : List UInt8) : unitQ Try.prog cfg PKs5 LP0 false 38 (groupA marked_sh (Tu.mk marked_fs ((s_Files_x, s_Files), (s_Marks_x, s_Marks), s_Epoch, client, m_Seq, m_Err, m_File, m_Ver, at_, f_Name, f_Ver, f_Body))) [] = marked_r s_Files_x s_Files s_Marks_x s_Marks s_Epoch client m_Seq m_Err m_File m_Ver at_ f_Name f_Ver f_Body := by kernel_rfl

end Go.Proofs.Ytihgfpggdkhhaaa
