/- A part of the proof: contracts of functions. -/
import Derived.Test.YtihgfpggdkhhaaaW
import Derived.Test.YtihgfpggdkhhaaaAbAny

set_option linter.unusedVariables false
set_option linter.unusedSimpArgs false
set_option maxRecDepth 100000
namespace Go.Proofs.Ytihgfpggdkhhaaa
open Go Go.Ab
noncomputable def D8PK0 : PKs := PKst
theorem D8PK0_ok : PKsOk Try.prog D8PK0 := PKst_ok
def D8cB (c : UInt8) : AV := .int .u8 (c.toNat : Int)
def maHd (s : List UInt8) (i : Int) : St := { fr := [(0, .str s), (6, .sref 96 0 0 (s.map D8cB).length), (7, .int .i64 ((s.map D8cB).length : Int)), (8, .int .i64 i)], bs := [(96, { v := 0, k := .row, fz := false, sz := 1, es := s.map D8cB })], df := [] }
noncomputable def ma_s (s : List UInt8) (i : Int) : Option (St ⊕ (Ex × St)) := stepK Try.prog cfg D8PK0 LP0 34 0 (maHd s i)
noncomputable def ma_s_r (s : List UInt8) (i : Int) : Option (St ⊕ Ex × St) :=
  bK (decide (i < (↑(List.map D8cB s).length : Int))) (bK (decide (0 ≤ i ∧ i < (↑(List.map D8cB s).length : Int))) (oK (ldRow [Lf.fi IntKind.u8] (List.map D8cB s) (0 + i.toNat) 0) fun (d0 : Int) => bK (decide (d0 < 33)) (some (Sum.inr (Ex.ret, { fr := [(0, AV.str s), (2, AV.bool false)], bs := [], df := [] }))) (bK (decide (126 < d0)) (some (Sum.inr (Ex.ret, { fr := [(0, AV.str s), (2, AV.bool false)], bs := [], df := [] }))) (some (Sum.inl { fr := [(0, AV.str s), (6, AV.sref 96 0 0 (List.map D8cB s).length), (7, AV.int IntKind.i64 (↑(List.map D8cB s).length : Int)), (8, AV.int IntKind.i64 (IntKind.i64.wrap (i + 1)))], bs := [(96, { v := 0, k := BK.row, fz := false, sz := 1, es := List.map D8cB s })], df := [] })))) none) (some (Sum.inr (Ex.exit 0, { fr := [(0, AV.str s)], bs := [], df := [] })))
theorem ma_s_w (s : List UInt8) (i : Int) : ma_s s i = ma_s_r s i := by kernel_rfl

def ixHd (x : Bool) (l : List File_T) (nm : List UInt8) (i : Int) : St := { fr := [(0, .slc x (l.map (mkV true File_tfs))), (1, .fn 76 [] [.ptr 1000000 0 0 0]), (7, .int .i64 ((l.map (mkV true File_tfs)).length : Int)), (8, .int .i64 i)], bs := [(1000000, boxB [.str nm])], df := [] }
noncomputable def ix_s (x : Bool) (l : List File_T) (nm : List UInt8) (i : Int) : Option (St ⊕ (Ex × St)) := stepK Try.prog cfg D8PK0 LP0 73 0 (ixHd x l nm i)
noncomputable def ix_s_r (x : Bool) (l : List File_T) (nm : List UInt8) (i : Int) : Option (St ⊕ Ex × St) :=
  bK (decide (i < (↑(List.map (mkV true File_tfs) l).length : Int))) (oK (elemAt true File_tfs (List.map (mkV true File_tfs) l) i) fun (d0 : List UInt8 × Int × List UInt8) => bK (decide (d0.fst = nm)) (some (Sum.inr (Ex.ret, { fr := [(4, AV.int IntKind.i64 i)], bs := [(1000000, { v := 0, k := BK.box, fz := false, sz := 0, es := [AV.str nm] })], df := [] }))) (some (Sum.inl { fr := [(0, AV.slc x (List.map (mkV true File_tfs) l)), (1, AV.fn 76 [] [AV.ptr 1000000 0 0 0]), (7, AV.int IntKind.i64 (↑(List.map (mkV true File_tfs) l).length : Int)), (8, AV.int IntKind.i64 (IntKind.i64.wrap (i + 1)))], bs := [(1000000, { v := 0, k := BK.box, fz := false, sz := 0, es := [AV.str nm] })], df := [] }))) (some (Sum.inr (Ex.exit 0, { fr := [], bs := [(1000000, { v := 0, k := BK.box, fz := false, sz := 0, es := [AV.str nm] })], df := [] })))
theorem ix_s_w (x : Bool) (l : List File_T) (nm : List UInt8) (i : Int) : ix_s x l nm i = ix_s_r x l nm i := by kernel_rfl

theorem D8cB_inj {c d : UInt8} (h : D8cB c = D8cB d) : c = d := by
  simp only [D8cB, AV.int.injEq, true_and] at h
  exact UInt8.toNat_inj.1 (by omega)
theorem D8mapB_inj : ∀ {B B' : List UInt8}, B.map D8cB = B'.map D8cB → B = B'
  | [], [], _ => rfl
  | [], _ :: _, h => by simp at h
  | _ :: _, [], h => by simp at h
  | b :: B, c :: B', h => by
    simp only [List.map_cons, List.cons.injEq] at h
    rw [D8cB_inj h.1, D8mapB_inj h.2]
theorem ldB (l : List UInt8) (i : Nat) (h : i < l.length) : ldRow [Lf.fi .u8] (l.map D8cB) i 0 = some ((l.getD i 0).toNat : Int) := by
  simp [ldRow, h, ldCells, AV.cells, D8cB, Tu.dec, Lf.dec, List.getD]
/-- Bytes of a name. -/
def D8okL (s : List UInt8) : Bool := s.all fun c => decide (33 ≤ c.toNat ∧ c.toNat ≤ 126)
theorem loops34 : (loopsOf 0 (codeOf Try.prog 34)).map (·.1) = [0] := by kernel_rfl
theorem one34 : OneLoops Try.prog 34 := by unfold OneLoops; rw [loops34]; decide
theorem at34 : At 0 (codeOf Try.prog 34) 0 (.loop (bodyAt Try.prog 34 0)) := at_body one34 (by rw [loops34]; decide)
def maYes (s : List UInt8) : Ex × St := (.exit 0, { fr := [(0, .str s)], bs := [], df := [] })
def maNo (s : List UInt8) : Ex × St := (.ret, { fr := [(0, .str s), (2, .bool false)], bs := [], df := [] })
theorem ma_run (s : List UInt8) (hs : s.length ≤ 1000) : ∀ (j i : Nat), i + j = s.length → ∀ (m : Nat), j < m → Runs' Try.prog cfg D8PK0 34 0 m (maHd s i) (if D8okL (s.drop i) = true then maYes s else maNo s)
  | 0, i, hi, m + 1, hm => by
    rw [List.drop_of_length_le (by omega)]
    refine Runs'.done (lp := LP0) LPok.none at34 ((ma_s_w s i).trans ?_)
    unfold ma_s_r
    rw [bK_neg (by simp; omega)]
    rfl
  | j + 1, i, hi, m + 1, hm => by
    have hi' : i < s.length := by omega
    have e : s.drop i = s[i] :: s.drop (i + 1) := List.drop_eq_getElem_cons hi'
    have hg : s.getD i 0 = s[i] := getD_at hi' 0
    have hd : ldRow [Lf.fi IntKind.u8] (List.map D8cB s) (0 + (i : Int).toNat) 0 = some ((s[i].toNat : Int)) := by
      rw [Nat.zero_add, Int.toNat_natCast, ldB s i hi', hg]
    rw [e]
    by_cases h1 : s[i].toNat < 33
    · have ef : D8okL (s[i] :: s.drop (i + 1)) = false := by unfold D8okL; rw [List.all_cons, decide_eq_false (by omega)]; rfl
      rw [ef]
      refine Runs'.done (lp := LP0) LPok.none at34 ((ma_s_w s i).trans ?_)
      unfold ma_s_r
      rw [bK_pos (by simp; omega), bK_pos (by simp; omega)]
      refine (oK_pos hd).trans ?_
      rw [bK_pos (by exact decide_eq_true (by omega))]
      rfl
    · by_cases h2 : 126 < s[i].toNat
      · have ef : D8okL (s[i] :: s.drop (i + 1)) = false := by unfold D8okL; rw [List.all_cons, decide_eq_false (by omega)]; rfl
        rw [ef]
        refine Runs'.done (lp := LP0) LPok.none at34 ((ma_s_w s i).trans ?_)
        unfold ma_s_r
        rw [bK_pos (by simp; omega), bK_pos (by simp; omega)]
        refine (oK_pos hd).trans ?_
        rw [bK_neg (by exact decide_eq_false (by omega)), bK_pos (by exact decide_eq_true (by omega))]
        rfl
      · have et : D8okL (s[i] :: s.drop (i + 1)) = D8okL (s.drop (i + 1)) := by unfold D8okL; rw [List.all_cons, decide_eq_true (by omega)]; rfl
        rw [et]
        refine Runs'.step (lp := LP0) LPok.none at34 ((ma_s_w s i).trans ?_) (ma_run s hs j (i + 1) (by omega) m (by omega))
        unfold ma_s_r
        rw [bK_pos (by simp; omega), bK_pos (by simp; omega)]
        refine (oK_pos hd).trans ?_
        rw [bK_neg (by exact decide_eq_false (by omega)), bK_neg (by exact decide_eq_false (by omega)), w64 (by omega) (by omega)]
        rfl
def maH (d : List UInt8) : St := maHd d 0
/-- Bytes of a name. -/
def D8okF (d : List UInt8) : Bool := D8okL d
noncomputable def maL : LP := LP.of (D := List UInt8) maH (fun d => d.length ≤ 1000) fun d => .ite (D8okF d) (.leaf (maYes d)) (.leaf (maNo d))
noncomputable def LPm : LPs := LPs.add LP0 34 0 maL
theorem LPm_ok : LPok Try.prog cfg D8PK0 LPm 34 := LPok.addH LPok.none one34 (by
  intro d h
  have hr := ma_run d h d.length 0 (by omega) rounds (by have : d.length ≤ 1000 := h; simp only [rounds]; omega)
  rw [List.drop_zero] at hr
  simp only [Alt.val]
  by_cases hq : D8okL d = true
  · have hq' : D8okF d = true := hq
    rw [if_pos hq] at hr; rw [if_pos hq']; exact hr
  · have hq' : ¬ D8okF d = true := hq
    rw [if_neg hq] at hr; rw [if_neg hq']; exact hr)
theorem maH_inj (d d' : List UInt8) (h : maH d = maH d') : d = d' := by
  simp only [maH, maHd, St.mk.injEq, List.cons.injEq, Prod.mk.injEq, AV.str.injEq, and_true, true_and] at h
  exact h.1.1
abbrev may_id : Nat := 34
abbrev may_sh : Shp := [none]
abbrev may_fs : List Lf := [.fs]
abbrev may_rsh : Shp := [none]
abbrev may_rfs : List Lf := [.fb]
noncomputable def may_r (name : List UInt8) : Option Ret :=
  bK (decide (name.length < 1000000000)) (bK (decide (0 + (List.map (fun (c : UInt8) => AV.int IntKind.u8 (↑c.toNat : Int)) name).length ≤ (List.map (fun (c : UInt8) => AV.int IntKind.u8 (↑c.toNat : Int)) name).length)) (oK (maL.dec { fr := [(0, AV.str name), (6, AV.sref 96 0 0 (List.map (fun (c : UInt8) => AV.int IntKind.u8 (↑c.toNat : Int)) name).length), (7, AV.int IntKind.i64 (↑(List.map (fun (c : UInt8) => AV.int IntKind.u8 (↑c.toNat : Int)) name).length : Int)), (8, AV.int IntKind.i64 0)], bs := [(96, { v := 0, k := BK.row, fz := false, sz := 1, es := List.map (fun (c : UInt8) => AV.int IntKind.u8 (↑c.toNat : Int)) name })], df := [] }) fun (d0 : List UInt8) => bK (D8okF d0) (bK (decide (1 ≤ (↑d0.length : Int))) (some { pan := false, res := AV.bool (decide ((↑d0.length : Int) ≤ 8)), out := [], new := [] }) (some { pan := false, res := AV.bool false, out := [], new := [] })) (some { pan := false, res := AV.bool false, out := [], new := [] })) none) none
theorem may_w (name : List UInt8) : unitQ Try.prog cfg D8PK0 LPm false 34 (groupA may_sh (Tu.mk may_fs name)) [] = may_r name := by kernel_rfl

/-- May it be a name? -/
def D8mayN (s : List UInt8) : Bool := D8okL s && (decide (1 ≤ s.length) && decide (s.length ≤ 8))
noncomputable def mayS : FS := ⟨may_sh, may_fs, may_rsh, may_rfs, fun d => d.length ≤ 1000, fun d => D8mayN d, none⟩
/-- Where the first of a name is, from a number on; below 0: nowhere. -/
def D8posN (nm : List UInt8) : List File_T → Int → Int
  | [], _ => -1
  | f :: r, i => if f.1 = nm then i else D8posN nm r (i + 1)
theorem loops73 : (loopsOf 0 (codeOf Try.prog 73)).map (·.1) = [0] := by kernel_rfl
theorem one73 : OneLoops Try.prog 73 := by unfold OneLoops; rw [loops73]; decide
theorem at73 : At 0 (codeOf Try.prog 73) 0 (.loop (bodyAt Try.prog 73 0)) := at_body one73 (by rw [loops73]; decide)
def ixRes (nm : List UInt8) (k : Int) : Ex × St := if 0 ≤ k then (.ret, { fr := [(4, .int .i64 k)], bs := [(1000000, boxB [.str nm])], df := [] }) else (.exit 0, { fr := [], bs := [(1000000, boxB [.str nm])], df := [] })
theorem ix_run (x : Bool) (l : List File_T) (nm : List UInt8) (hl : l.length ≤ 100000) : ∀ (j i : Nat), i + j = l.length → ∀ (m : Nat), j < m → Runs' Try.prog cfg D8PK0 73 0 m (ixHd x l nm i) (ixRes nm (D8posN nm (l.drop i) i))
  | 0, i, hi, m + 1, hm => by
    rw [List.drop_of_length_le (by omega)]
    refine Runs'.done (lp := LP0) LPok.none at73 ((ix_s_w x l nm i).trans ?_)
    unfold ix_s_r
    rw [bK_neg (by simp; omega)]
    rfl
  | j + 1, i, hi, m + 1, hm => by
    have hi' : i < l.length := by omega
    have e : l.drop i = l[i] :: l.drop (i + 1) := List.drop_eq_getElem_cons hi'
    have hg : l.getD (i : Int).toNat ([], 0, []) = l[i] := by rw [Int.toNat_natCast, getD_at hi']
    rw [e]
    by_cases h1 : l[i].1 = nm
    · have ef : D8posN nm (l[i] :: l.drop (i + 1)) (i : Int) = (i : Int) := if_pos h1
      rw [ef]
      refine Runs'.done (lp := LP0) LPok.none at73 ((ix_s_w x l nm i).trans ?_)
      unfold ix_s_r ixRes
      rw [bK_pos (by simp; omega)]
      refine (oK_atD rfl ([], 0, []) (by omega) (by simpa using hi')).trans ?_
      rw [hg, bK_pos (by exact decide_eq_true h1), if_pos (by omega)]
      rfl
    · have ef : D8posN nm (l[i] :: l.drop (i + 1)) (i : Int) = D8posN nm (l.drop (i + 1)) ((i : Int) + 1) := if_neg h1
      rw [ef]
      refine Runs'.step (lp := LP0) LPok.none at73 ((ix_s_w x l nm i).trans ?_) (ix_run x l nm hl j (i + 1) (by omega) m (by omega))
      unfold ix_s_r
      rw [bK_pos (by simp; omega)]
      refine (oK_atD rfl ([], 0, []) (by omega) (by simpa using hi')).trans ?_
      rw [hg, bK_neg (by exact decide_eq_false h1), w64 (by omega) (by omega)]
      rfl
abbrev IxD : Type := Bool × List File_T × List UInt8
def ixH (d : IxD) : St := ixHd d.1 d.2.1 d.2.2 0
/-- Where the first of a name is. -/
def D8posF (d : IxD) : Int := D8posN d.2.2 d.2.1 0
noncomputable def ixL : LP := LP.of (D := IxD) ixH (fun d => d.2.1.length ≤ 100000) fun d => .ite (decide (0 ≤ D8posF d)) (.leaf (.ret, { fr := [(4, .int .i64 (D8posF d))], bs := [(1000000, boxB [.str d.2.2])], df := [] })) (.leaf (.exit 0, { fr := [], bs := [(1000000, boxB [.str d.2.2])], df := [] }))
noncomputable def LPi : LPs := LPs.add LP0 73 0 ixL
theorem LPi_ok : LPok Try.prog cfg D8PK0 LPi 73 := LPok.addH LPok.none one73 (by
  intro d h
  have hr := ix_run d.1 d.2.1 d.2.2 h d.2.1.length 0 (by omega) rounds (by have : d.2.1.length ≤ 100000 := h; simp only [rounds]; omega)
  rw [List.drop_zero] at hr
  have hr' : Runs' Try.prog cfg D8PK0 73 0 rounds (ixH d) (ixRes d.2.2 (D8posF d)) := hr
  unfold ixRes at hr'
  simp only [Alt.val]
  by_cases hq : 0 ≤ D8posF d
  · rw [if_pos hq] at hr'; rw [decide_eq_true hq]; exact hr'
  · rw [if_neg hq] at hr'; rw [decide_eq_false hq]; exact hr')
theorem ixH_inj (d d' : IxD) (h : ixH d = ixH d') : d = d' := by
  obtain ⟨x, l, n⟩ := d
  obtain ⟨x', l', n'⟩ := d'
  simp only [ixH, ixHd, boxB, St.mk.injEq, List.cons.injEq, Prod.mk.injEq, AV.slc.injEq, AV.str.injEq, Blk.mk.injEq, and_true, true_and] at h
  obtain ⟨⟨⟨h1, h2⟩, _⟩, h3⟩ := h
  rw [h1, map_inj (fs := File_tfs) rfl h2, h3]
def ixArg (d : IxD) : List AV × List Blk := ([.slc d.1 (d.2.1.map (mkV true File_tfs)), .fn 76 [] [.ptr outBase 0 0 0]], [boxB [.str d.2.2]])
noncomputable def ixu (x : Bool) (l : List File_T) (nm : List UInt8) : Option Ret := unitQ Try.prog cfg D8PK0 LPi false 73 (ixArg (x, l, nm)).1 (ixArg (x, l, nm)).2
noncomputable def ixu_r (x : Bool) (l : List File_T) (nm : List UInt8) : Option Ret :=
  oK (ixL.dec { fr := [(0, AV.slc x (List.map (mkV true File_tfs) l)), (1, AV.fn 76 [] [AV.ptr 1000000 0 0 0]), (7, AV.int IntKind.i64 (↑(List.map (mkV true File_tfs) l).length : Int)), (8, AV.int IntKind.i64 0)], bs := [(1000000, { v := 0, k := BK.box, fz := false, sz := 0, es := [AV.str nm] })], df := [] }) fun (d0 : Bool × List (List UInt8 × Int × List UInt8) × List UInt8) => bK (decide (0 ≤ D8posF d0)) (some { pan := false, res := AV.int IntKind.i64 (D8posF d0), out := [{ v := 0, k := BK.box, fz := false, sz := 0, es := [AV.str d0.snd.snd] }], new := [] }) (some { pan := false, res := AV.int IntKind.i64 (-1), out := [{ v := 0, k := BK.box, fz := false, sz := 0, es := [AV.str d0.snd.snd] }], new := [] })
theorem ixu_w (x : Bool) (l : List File_T) (nm : List UInt8) : ixu x l nm = ixu_r x l nm := by kernel_rfl

theorem may_v (name : List UInt8) (h : mayS.pre name) : may_r name = some (mayS.ret name) := by
  have h' : name.length ≤ 1000 := h
  show _ = some (mayS.out (D8mayN name))
  unfold may_r
  rw [bK_pos (by simp; omega), bK_pos (by simp)]
  refine oK_lpq (Q := fun z => z = _) maH_inj name h' ?_
  have hm : D8mayN name = (D8okL name && (decide (1 ≤ name.length) && decide (name.length ≤ 8))) := rfl
  rw [hm]
  refine bK_b (fun hq => ?_) (fun hq => ?_)
  · have hq' : D8okL name = true := hq
    rw [hq', Bool.true_and]
    refine bK_i (fun c1 => ?_) (fun c1 => ?_)
    · rw [decide_eq_true (show 1 ≤ name.length by omega), Bool.true_and, show decide (name.length ≤ 8) = decide ((name.length : Int) ≤ 8) from decide_eq_decide.2 (by omega)]; rfl
    · rw [decide_eq_false (show ¬ 1 ≤ name.length by omega), Bool.false_and]; rfl
  · have hq' : D8okL name = false := hq
    rw [hq', Bool.false_and]; rfl
theorem may_ok : ∀ (d : Tu may_fs), mayS.pre d → unitQ Try.prog cfg D8PK0 LPm false 34 (mayS.args d) [] = some (mayS.ret d)
  | name, h => (may_w name).trans (may_v name h)
noncomputable def D8PK1 : PKs := D8PK0.add 34 mayS.pk
theorem D8PK1_ok : PKsOk Try.prog D8PK1 := PKsOk.fs (cfg := cfg) D8PK0_ok (fnOk D8PK0_ok 21) 34 rfl LPm LPm_ok.loops mayS may_ok

theorem posN_ge (nm : List UInt8) : ∀ (l : List File_T) (i : Int), 0 ≤ i → D8posN nm l i = -1 ∨ (i ≤ D8posN nm l i ∧ D8posN nm l i < i + l.length)
  | [], i, _ => .inl rfl
  | f :: r, i, hi => by
    unfold D8posN
    split
    · right; simp; omega
    · rcases posN_ge nm r (i + 1) (by omega) with h | h
      · exact .inl h
      · right; simp; omega
noncomputable def ixPK : PK := PK.of (D := IxD) ixArg (fun d => d.2.1.length ≤ 100000) fun d => .leaf { pan := false, res := .int .i64 (D8posF d), out := [boxB [.str d.2.2]], new := [] }
noncomputable def D8PKi : PKs := D8PK0.add 73 ixPK
theorem D8PKi_ok : PKsOk Try.prog D8PKi := PKsOk.of (cfg := cfg) D8PK0_ok (fnOk D8PK0_ok 21) 73 rfl LPi LPi_ok.loops ixArg _ _ false (fun d => by show 1 ≤ 1000; decide) (by
  rintro ⟨x, l, nm⟩ h
  refine (ixu_w x l nm).trans ?_
  unfold ixu_r
  refine oK_lpq (Q := fun z => z = _) ixH_inj (x, l, nm) h ?_
  refine bK_i (fun _ => rfl) (fun c => ?_)
  rcases posN_ge nm l 0 (by omega) with h1 | h1
  · have e : D8posF (x, l, nm) = -1 := h1
    simp only [Alt.val, e]
    rfl
  · exact absurd (show 0 ≤ D8posF (x, l, nm) from h1.1) c)
noncomputable def D8PK2 : PKs := D8PK1.add 73 ixPK
theorem D8PK2_ok : PKsOk Try.prog D8PK2 := PKsOk.take D8PK1_ok D8PKi_ok rfl
theorem ixArg_inj (d d' : IxD) (h : ixArg d = ixArg d') : d = d' := by
  obtain ⟨x, l, n⟩ := d
  obtain ⟨x', l', n'⟩ := d'
  simp only [ixArg, boxB, List.cons.injEq, Prod.mk.injEq, AV.slc.injEq, AV.str.injEq, Blk.mk.injEq, and_true, true_and] at h
  obtain ⟨⟨h1, h2⟩, h3⟩ := h
  rw [h1, map_inj (fs := File_tfs) rfl h2, h3]
abbrev findD_id : Nat := 35
abbrev findD_sh : Shp := [none, none]
abbrev findD_fs : List Lf := [.fl true File_tfs, .fs]
abbrev findD_rsh : Shp := [none, none]
abbrev findD_rfs : List Lf := [.fi .i64, .fb]
noncomputable def findD_r (l_x : Bool) (l : List File_T) (name : List UInt8) : Option Ret :=
  oK (mayS.dec [AV.str name] []) fun (d0 : List UInt8) => bK (!D8mayN d0) (some { pan := false, res := AV.tup [AV.int IntKind.i64 0, AV.bool false], out := [], new := [] }) (oK (ixPK.dec [AV.slc l_x (List.map (mkV true File_tfs) l), AV.fn 76 [] [AV.ptr 1000000 0 0 0]] [{ v := 0, k := BK.box, fz := false, sz := 0, es := [AV.str name] }]) fun (d1 : Bool × List (List UInt8 × Int × List UInt8) × List UInt8) => some { pan := false, res := AV.tup [AV.int IntKind.i64 (IntKind.i64.wrap (D8posF d1 + 1)), AV.bool (decide (0 ≤ D8posF d1))], out := [], new := [] })
theorem findD_w (l_x : Bool) (l : List File_T) (name : List UInt8) : unitQ Try.prog cfg D8PK2 LP0 false 35 (groupA findD_sh (Tu.mk findD_fs ((l_x, l), name))) [] = findD_r l_x l name := by kernel_rfl

/-- The file of a name. -/
def fdF (d : IxD) : Int × Bool := if D8mayN d.2.2 = true then (D8posF d + 1, decide (0 ≤ D8posF d)) else (0, false)
noncomputable def findDS : FS := ⟨findD_sh, findD_fs, findD_rsh, findD_rfs, fun d => d.1.2.length ≤ 100000 ∧ d.2.length ≤ 1000, fun d => fdF (d.1.1, d.1.2, d.2), none⟩
theorem D8posF_w {d : IxD} (h : d.2.1.length ≤ 100000) : IntKind.i64.wrap (D8posF d + 1) = D8posF d + 1 := by
  have := posN_ge d.2.2 d.2.1 0 (by omega)
  have e : D8posF d = D8posN d.2.2 d.2.1 0 := rfl
  rw [e, w64 (by omega) (by omega)]
theorem findD_v (l_x : Bool) (l : List File_T) (name : List UInt8) (h : findDS.pre ((l_x, l), name)) : findD_r l_x l name = some (findDS.ret ((l_x, l), name)) := by
  obtain ⟨h1, h2⟩ := h
  show _ = some (findDS.out (fdF (l_x, l, name)))
  unfold findD_r
  refine oK_fsq (Q := fun z => z = _) mayS name h2 ?_
  refine bK_b (fun c => ?_) (fun c => ?_)
  · have hc : D8mayN name = false := by simpa using c
    have : fdF (l_x, l, name) = (0, false) := by unfold fdF; rw [hc]; rfl
    rw [this]; rfl
  · have hc : D8mayN name = true := by simpa using c
    have : fdF (l_x, l, name) = (D8posF (l_x, l, name) + 1, decide (0 ≤ D8posF (l_x, l, name))) := by unfold fdF; rw [hc]; rfl
    rw [this]
    refine oK_pkq (Q := fun z => z = _) ixArg_inj (l_x, l, name) h1 ?_
    rw [D8posF_w h1]; rfl
theorem findD_ok : ∀ (d : Tu findD_fs), findDS.pre d → unitQ Try.prog cfg D8PK2 LP0 false 35 (findDS.args d) [] = some (findDS.ret d)
  | ((l_x, l), name), h => (findD_w l_x l name).trans (findD_v l_x l name h)
noncomputable def D8PK3 : PKs := D8PK2.add 35 findDS.pk
theorem D8PK3_ok : PKsOk Try.prog D8PK3 := PKsOk.fs (cfg := cfg) D8PK2_ok (fnOk D8PK2_ok 21) 35 rfl LP0 fLoops_none findDS findD_ok

abbrev roomD_id : Nat := 36
abbrev roomD_sh : Shp := [none]
abbrev roomD_fs : List Lf := [.fl true File_tfs]
abbrev roomD_rsh : Shp := [none, none]
abbrev roomD_rfs : List Lf := [.fi .i64, .fb]
noncomputable def roomD_r (l_x : Bool) (l : List File_T) : Option Ret :=
  oK (ixPK.dec [AV.slc l_x (List.map (mkV true File_tfs) l), AV.fn 76 [] [AV.ptr 1000000 0 0 0]] [{ v := 0, k := BK.box, fz := false, sz := 0, es := [AV.str []] }]) fun (d0 : Bool × List (List UInt8 × Int × List UInt8) × List UInt8) => some { pan := false, res := AV.tup [AV.int IntKind.i64 (IntKind.i64.wrap (D8posF d0 + 1)), AV.bool (decide (0 ≤ D8posF d0))], out := [], new := [] }
theorem roomD_w (l_x : Bool) (l : List File_T) : unitQ Try.prog cfg D8PK3 LP0 false 36 (groupA roomD_sh (Tu.mk roomD_fs (l_x, l))) [] = roomD_r l_x l := by kernel_rfl

noncomputable def roomDS : FS := ⟨roomD_sh, roomD_fs, roomD_rsh, roomD_rfs, fun d => d.2.length ≤ 100000, fun d => (D8posF (d.1, d.2, []) + 1, decide (0 ≤ D8posF (d.1, d.2, []))), none⟩
theorem roomD_v (l_x : Bool) (l : List File_T) (h : roomDS.pre (l_x, l)) : roomD_r l_x l = some (roomDS.ret (l_x, l)) := by
  show _ = some (roomDS.out (D8posF (l_x, l, []) + 1, decide (0 ≤ D8posF (l_x, l, []))))
  unfold roomD_r
  refine oK_pkq (Q := fun z => z = _) ixArg_inj (l_x, l, []) h ?_
  rw [D8posF_w (d := (l_x, l, [])) h]; rfl
theorem roomD_ok : ∀ (d : Tu roomD_fs), roomDS.pre d → unitQ Try.prog cfg D8PK3 LP0 false 36 (roomDS.args d) [] = some (roomDS.ret d)
  | (l_x, l), h => (roomD_w l_x l).trans (roomD_v l_x l h)
noncomputable def D8PK4 : PKs := D8PK3.add 36 roomDS.pk
theorem D8PK4_ok : PKsOk Try.prog D8PK4 := PKsOk.fs (cfg := cfg) D8PK3_ok (fnOk D8PK3_ok 21) 36 rfl LP0 fLoops_none roomDS roomD_ok

end Go.Proofs.Ytihgfpggdkhhaaa
