/- What was done last for whom: contracts. -/
import Derived.Test.YthdmjojanccjfaaBase
import Derived.Test.YthdmjojanccjfaaAbCl

set_option linter.unusedVariables false
set_option linter.unusedSimpArgs false
set_option maxRecDepth 100000
namespace Go.Proofs.Ythdmjojanccjfaa
open Go Go.Ab

noncomputable def PKs0 : PKs := fun _ => none
theorem PKs0_ok : PKsOk Try.prog PKs0 := PKsOk.none
def LP0 : LPs := fun _ _ => none
theorem clone14_empty : PrimOk Try.prog 14 primEmpty := primEmpty_of Try.func14 rfl (by kernel_rfl) (by kernel_rfl) (by kernel_rfl) (by kernel_rfl) (by kernel_rfl)
noncomputable def cl_0 (x : Bool) (d : Mark_T) (l : List Mark_T) : Option Ret := unitQ Try.prog cfg PKs0 LP0 true 14 [.slc x (mkV true Mark_tfs d :: l.map (mkV true Mark_tfs))] []
noncomputable def cl_0_r (x : Bool) (d : Mark_T) (l : List Mark_T) : Option Ret :=
  bK ((AV.agg [AV.int IntKind.i64 d.fst, AV.int IntKind.i64 d.snd.fst, AV.int IntKind.i64 d.snd.snd.fst, AV.int IntKind.i64 d.snd.snd.snd] :: List.map (mkV true Mark_tfs) l).all fun (y : AV) => decide (y.cells.length = 4)) (bK (true && bytesFit Try.prog 25 (0 + (AV.agg [AV.int IntKind.i64 d.fst, AV.int IntKind.i64 d.snd.fst, AV.int IntKind.i64 d.snd.snd.fst, AV.int IntKind.i64 d.snd.snd.snd] :: List.map (mkV true Mark_tfs) l).length)) (some { pan := false, res := AV.sref 2000000 0 0 (0 + (AV.agg [AV.int IntKind.i64 d.fst, AV.int IntKind.i64 d.snd.fst, AV.int IntKind.i64 d.snd.snd.fst, AV.int IntKind.i64 d.snd.snd.snd] :: List.map (mkV true Mark_tfs) l).length), out := [], new := [{ v := 0, k := BK.row, fz := false, sz := 4, es := AV.agg [AV.int IntKind.i64 d.fst, AV.int IntKind.i64 d.snd.fst, AV.int IntKind.i64 d.snd.snd.fst, AV.int IntKind.i64 d.snd.snd.snd] :: List.map (mkV true Mark_tfs) l }] }) none) none
theorem cl_0_w (x : Bool) (d : Mark_T) (l : List Mark_T) : cl_0 x d l = cl_0_r x d l := by kernel_rfl

/-- Marks. -/
abbrev Marks_fs : List Lf := [.fl true Mark_tfs]
/-- The same list. -/
def cloneF (d : Bool × List Mark_T) : Bool × List Mark_T := (true, d.2)
noncomputable def cloneS : FS := ⟨[none], Marks_fs, [none], Marks_fs, fun d => d.2.length ≤ 100000, fun d => cloneF d, some (0, 4)⟩
theorem bytes25 : Try.prog.bytesOf 25 = 32 := by kernel_rfl
theorem fit25 {n : Nat} (h : n ≤ 1000000) : bytesFit Try.prog 25 n = true := by
  simp only [bytesFit, bytes25, decide_eq_true_eq]; omega
theorem cl_ok : ∀ d : Tu cloneS.fs, cloneS.pre d → (∃ x, cloneS.args d = [.slc x []] ∧ cloneS.ret d = { pan := false, res := .slc true [], out := [], new := [] }) ∨ unitQ Try.prog cfg PKs0 LP0 true 14 (cloneS.args d) [] = some (cloneS.ret d)
  | (x, []), _ => .inl ⟨x, rfl, rfl⟩
  | (x, d :: l), h => .inr (by
    refine (cl_0_w x d l).trans ?_
    unfold cl_0_r
    have h' : (d :: l).length ≤ 100000 := h
    rw [bK_pos (by simp [AV.cells, mkV, mkA, Tu.mk]), bK_pos (by
      rw [Bool.true_and]
      refine fit25 ?_
      simp only [List.length_cons, List.length_map] at h' ⊢
      omega)]
    show _ = some (cloneS.alts (x, d :: l)).val
    refine (congrArg some ?_).trans (congrArg some (own_one (sz := 4) (x := true) (l := d :: l) (f := mkV true Mark_tfs) (out := [])).symm)
    rw [if_neg (by simp)]
    simp only [List.length_cons, List.length_map, Nat.zero_add]
    rfl)
noncomputable def PKc : PKs := PKs0.add 14 (clonePK Try.prog 14)
theorem PKc_ok : PKsOk Try.prog PKc := PKsOk.clone PKs0_ok (by kernel_rfl) (by kernel_rfl) clone14_empty
noncomputable def PK0 : PKs := PKs0.add 14 cloneS.pk
theorem PK0_ok : PKsOk Try.prog PK0 := PKsOk.cl (cfg := cfg) PKs0_ok (fnOk PKs0_ok 21) 14 rfl clone14_empty LP0 fLoops_none cloneS cl_ok
abbrev begun_id : Nat := 6
abbrev begun_sh : Shp := []
abbrev begun_fs : List Lf := []
abbrev begun_rsh : Shp := [none]
abbrev begun_rfs : List Lf := [.fb]
noncomputable def begun_r  : Option Ret :=
  some { pan := false, res := AV.bool true, out := [], new := [] }
theorem begun_w  : unitQ Try.prog cfg PKc LP0 false 6 (groupA begun_sh (Tu.mk begun_fs ())) [] = begun_r  := by kernel_rfl

def begunS : FS := ⟨begun_sh, begun_fs, begun_rsh, begun_rfs, fun _ => True, fun _ => true, none⟩
theorem begun_v (h : True) : begun_r = some (begunS.ret ()) := rfl
theorem begun_ok : ∀ (d : Tu begun_fs), begunS.pre d → unitQ Try.prog cfg PKc LP0 false 6 (begunS.args d) [] = some (begunS.ret d)
  | (), h => (begun_w ).trans (begun_v  h)
noncomputable def PKcb : PKs := PKc.add 6 begunS.pk
theorem PKcb_ok : PKsOk Try.prog PKcb := PKsOk.fs (cfg := cfg) PKc_ok (fnOk PKc_ok 21) 6 rfl LP0 fLoops_none begunS begun_ok

noncomputable def PK1 : PKs := PK0.add 6 begunS.pk
theorem PK1_ok : PKsOk Try.prog PK1 := PKsOk.take PK0_ok PKcb_ok rfl
abbrev putM_id : Nat := 9
abbrev putM_sh : Shp := [none, none, some 4]
abbrev putM_fs : List Lf := [.fl true Mark_tfs, .fi .i64, .fi .i64, .fi .i64, .fi .i64, .fi .i64]
abbrev putM_rsh : Shp := [none]
abbrev putM_rfs : List Lf := [.fl true Mark_tfs]
noncomputable def putM_r (l_x : Bool) (l : List Mark_T) (client : Int) (m_Seq : Int) (m_Err : Int) (m_File : Int) (m_Ver : Int) : Option Ret :=
  oK (cloneS.dec [AV.slc l_x (List.map (mkV true Mark_tfs) l)] []) fun (d0 : Bool × List (Int × Int × Int × Int)) =>
  bK (List.map (mkV true Mark_tfs) (cloneF d0).snd).isEmpty (bK (decide (1 ≤ client)) (bK (decide (client ≤ 0)) (oK (elemAt true Mark_tfs [] (IntKind.i64.wrap (client - 1))) fun (d1 : Int × Int × Int × Int) => bK (decide (d1.fst < m_Seq)) (oK (elemAt true Mark_tfs [] (IntKind.i64.wrap (client - 1))) fun (d2 : Int × Int × Int × Int) => none) (some { pan := false, res := AV.slc true [], out := [], new := [] })) (some { pan := false, res := AV.slc true [], out := [], new := [] })) (some { pan := false, res := AV.slc true [], out := [], new := [] }))
    (bK (decide (0 + (List.map (mkV true Mark_tfs) (cloneF d0).snd).length ≤ (List.map (mkV true Mark_tfs) (cloneF d0).snd).length))
      (bK (decide (1 ≤ client))
        (bK (decide (client ≤ (↑(List.take (List.map (mkV true Mark_tfs) (cloneF d0).snd).length (List.drop 0 (List.map (mkV true Mark_tfs) (cloneF d0).snd))).length : Int)))
          (bK (decide (0 ≤ IntKind.i64.wrap (client - 1) ∧ IntKind.i64.wrap (client - 1) < (↑(List.map (mkV true Mark_tfs) (cloneF d0).snd).length : Int))) (bK (decide (0 + (IntKind.i64.wrap (client - 1)).toNat < (List.map (mkV true Mark_tfs) (cloneF d0).snd).length)) (oK (ldRow [Lf.fi IntKind.i64] (List.map (mkV true Mark_tfs) (cloneF d0).snd) (0 + (IntKind.i64.wrap (client - 1)).toNat) 0) fun (d3 : Int) => bK (decide (d3 < m_Seq)) (bK (decide (0 ≤ IntKind.i64.wrap (client - 1) ∧ IntKind.i64.wrap (client - 1) < (↑(List.map (mkV true Mark_tfs) (cloneF d0).snd).length : Int))) (oK (stRow (List.map (mkV true Mark_tfs) (cloneF d0).snd) (0 + (IntKind.i64.wrap (client - 1)).toNat) 0 [AV.int IntKind.i64 m_Seq, AV.int IntKind.i64 m_Err, AV.int IntKind.i64 m_File, AV.int IntKind.i64 m_Ver]) fun (d4 : List AV) => bK (decide (0 + (List.map (mkV true Mark_tfs) (cloneF d0).snd).length ≤ d4.length)) (some { pan := false, res := AV.slc false (List.take (List.map (mkV true Mark_tfs) (cloneF d0).snd).length (List.drop 0 d4)), out := [], new := [] }) none) none) (bK (decide (0 + (List.map (mkV true Mark_tfs) (cloneF d0).snd).length ≤ (List.map (mkV true Mark_tfs) (cloneF d0).snd).length)) (some { pan := false, res := AV.slc false (List.take (List.map (mkV true Mark_tfs) (cloneF d0).snd).length (List.drop 0 (List.map (mkV true Mark_tfs) (cloneF d0).snd))), out := [], new := [] }) none)) none) none)
          (bK (decide (0 + (List.map (mkV true Mark_tfs) (cloneF d0).snd).length ≤ (List.map (mkV true Mark_tfs) (cloneF d0).snd).length)) (some { pan := false, res := AV.slc false (List.take (List.map (mkV true Mark_tfs) (cloneF d0).snd).length (List.drop 0 (List.map (mkV true Mark_tfs) (cloneF d0).snd))), out := [], new := [] }) none))
        (bK (decide (0 + (List.map (mkV true Mark_tfs) (cloneF d0).snd).length ≤ (List.map (mkV true Mark_tfs) (cloneF d0).snd).length)) (some { pan := false, res := AV.slc false (List.take (List.map (mkV true Mark_tfs) (cloneF d0).snd).length (List.drop 0 (List.map (mkV true Mark_tfs) (cloneF d0).snd))), out := [], new := [] }) none))
      none)
theorem putM_w (l_x : Bool) (l : List Mark_T) (client : Int) (m_Seq : Int) (m_Err : Int) (m_File : Int) (m_Ver : Int) : unitQ Try.prog cfg PK1 LP0 false 9 (groupA putM_sh (Tu.mk putM_fs ((l_x, l), client, m_Seq, m_Err, m_File, m_Ver))) [] = putM_r l_x l client m_Seq m_Err m_File m_Ver := by kernel_rfl

theorem ldSeq (l : List Mark_T) (i : Nat) (h : i < l.length) : ldRow [Lf.fi .i64] (l.map (mkV true Mark_tfs)) i 0 = some (l.getD i (0, 0, 0, 0)).1 := by
  simp [ldRow, h, ldCells, mkV, mkA, AV.cells, Tu.mk, Lf.mk, Tu.dec, Lf.dec, List.getD]
theorem stMark (l : List Mark_T) (i : Nat) (h : i < l.length) (m : Mark_T) : stRow (l.map (mkV true Mark_tfs)) i 0 [.int .i64 m.1, .int .i64 m.2.1, .int .i64 m.2.2.1, .int .i64 m.2.2.2] = some ((l.set i m).map (mkV true Mark_tfs)) := by
  simp [stRow, h, splice, mkV, mkA, AV.cells, AV.recell, Tu.mk, Lf.mk, List.map_set]
/-- The marks behind another one. -/
def putL (l : List Mark_T) (c : Int) (m : Mark_T) : List Mark_T := if 1 ≤ c ∧ c ≤ (l.length : Int) ∧ (l.getD (c - 1).toNat (0, 0, 0, 0)).1 < m.1 then l.set (c - 1).toNat m else l
theorem putL_len (l : List Mark_T) (c : Int) (m : Mark_T) : (putL l c m).length = l.length := by unfold putL; split <;> simp
def putMS : FS := ⟨putM_sh, putM_fs, putM_rsh, putM_rfs, fun d => d.1.2.length ≤ 100000, fun d => (d.1.2.isEmpty, putL d.1.2 d.2.1 d.2.2), none⟩
theorem putM_v (l_x : Bool) (l : List Mark_T) (client : Int) (m_Seq : Int) (m_Err : Int) (m_File : Int) (m_Ver : Int) (h : putMS.pre ((l_x, l), client, m_Seq, m_Err, m_File, m_Ver)) : putM_r l_x l client m_Seq m_Err m_File m_Ver = some (putMS.ret ((l_x, l), client, m_Seq, m_Err, m_File, m_Ver)) := by
  have h' : l.length ≤ 100000 := h
  show _ = some (putMS.out (l.isEmpty, putL l client (m_Seq, m_Err, m_File, m_Ver)))
  unfold putM_r
  refine oK_fsq cloneS (l_x, l) h' (Q := fun z => z = _) ?_
  have hc : (cloneF (l_x, l)).2 = l := rfl
  simp only [hc, List.length_map]
  cases l with
  | nil =>
    refine bK_tq (Q := fun z => z = _) rfl ?_
    have e : putL [] client (m_Seq, m_Err, m_File, m_Ver) = [] := by unfold putL; split <;> rfl
    rw [e]
    refine bK_i (fun _ => ?_) (fun _ => rfl)
    exact bK_i (fun _ => by omega) (fun _ => rfl)
  | cons d l =>
    refine bK_fq (Q := fun z => z = _) rfl ?_
    generalize hL : d :: l = L at h' ⊢
    have hl0 : L.isEmpty = false := by rw [← hL]; rfl
    rw [hl0]
    have ht : List.take L.length (List.drop 0 (List.map (mkV true Mark_tfs) L)) = List.map (mkV true Mark_tfs) L := by rw [List.drop_zero, List.take_of_length_le (by simp)]
    rw [ht, bK_pos (by simp)]
    refine bK_i (fun c1 => ?_) (fun c1 => ?_)
    · refine bK_i (fun c2 => ?_) (fun c2 => ?_)
      · have c2' : client ≤ (L.length : Int) := by simpa using c2
        have hi : (client - 1).toNat < L.length := by omega
        rw [w64 (n := client - 1) (by omega) (by omega), bK_pos (by simp; omega), Nat.zero_add, bK_pos (by simpa using hi)]
        refine (oK_pos (ldSeq L _ hi)).trans ?_
        refine bK_i (fun c3 => ?_) (fun c3 => ?_)
        · rw [bK_pos (by simp; omega)]
          refine (oK_pos (stMark L _ hi (m_Seq, m_Err, m_File, m_Ver))).trans ?_
          rw [bK_pos (by simp)]
          unfold putL
          rw [if_pos ⟨c1, c2', c3⟩, List.drop_zero, List.take_of_length_le (by simp)]
          rfl
        · rw [bK_pos (by simp)]
          unfold putL
          rw [if_neg (fun hh => c3 hh.2.2)]
          rfl
      · rw [bK_pos (by simp)]
        unfold putL
        rw [if_neg (fun hh => c2 (by simpa using hh.2.1))]
        rfl
    · rw [bK_pos (by simp)]
      unfold putL
      rw [if_neg (fun hh => c1 hh.1)]
      rfl
theorem putM_ok : ∀ (d : Tu putM_fs), putMS.pre d → unitQ Try.prog cfg PK1 LP0 false 9 (putMS.args d) [] = some (putMS.ret d)
  | ((l_x, l), client, m_Seq, m_Err, m_File, m_Ver), h => (putM_w l_x l client m_Seq m_Err m_File m_Ver).trans (putM_v l_x l client m_Seq m_Err m_File m_Ver h)
noncomputable def PK2 : PKs := PK1.add 9 putMS.pk
theorem PK2_ok : PKsOk Try.prog PK2 := PKsOk.fs (cfg := cfg) PK1_ok (fnOk PK1_ok 21) 9 rfl LP0 fLoops_none putMS putM_ok

abbrev putR_id : Nat := 10
abbrev putR_sh : Shp := [none, none, some 4]
abbrev putR_fs : List Lf := [.fl true Mark_tfs, .fi .i64, .fi .i64, .fi .i64, .fi .i64, .fi .i64]
abbrev putR_rsh : Shp := [none]
abbrev putR_rfs : List Lf := [.fl true Mark_tfs]
noncomputable def putR_r (l_x : Bool) (l : List Mark_T) (client : Int) (m_Seq : Int) (m_Err : Int) (m_File : Int) (m_Ver : Int) : Option Ret :=
  bK ((List.map (mkV true Mark_tfs) l).all fun (y : AV) => decide (y.cells.length = 4))
  (bK (List.map (mkV true Mark_tfs) l).isEmpty (bK (decide (1 ≤ client)) (bK (decide (client ≤ (↑(List.map (mkV true Mark_tfs) l).length : Int))) (oK (elemAt true Mark_tfs (List.map (mkV true Mark_tfs) l) (IntKind.i64.wrap (client - 1))) fun (d0 : Int × Int × Int × Int) => bK (decide (d0.fst < m_Seq)) (bK (decide (0 ≤ IntKind.i64.wrap (client - 1) ∧ IntKind.i64.wrap (client - 1) < 0)) none none) (some { pan := false, res := AV.slc false [], out := [], new := [] })) (some { pan := false, res := AV.slc false [], out := [], new := [] })) (some { pan := false, res := AV.slc false [], out := [], new := [] }))
    (bK (true && bytesFit Try.prog 25 (0 + (List.map (mkV true Mark_tfs) l).length))
      (bK (decide (1 ≤ client)) (bK (decide (client ≤ (↑(List.map (mkV true Mark_tfs) l).length : Int))) (oK (elemAt true Mark_tfs (List.map (mkV true Mark_tfs) l) (IntKind.i64.wrap (client - 1))) fun (d1 : Int × Int × Int × Int) => bK (decide (d1.fst < m_Seq)) (bK (decide (0 ≤ IntKind.i64.wrap (client - 1) ∧ IntKind.i64.wrap (client - 1) < (↑(0 + (List.map (mkV true Mark_tfs) l).length) : Int))) (oK (stRow ([] ++ List.map (mkV true Mark_tfs) l) (0 + (IntKind.i64.wrap (client - 1)).toNat) 0 [AV.int IntKind.i64 m_Seq, AV.int IntKind.i64 m_Err, AV.int IntKind.i64 m_File, AV.int IntKind.i64 m_Ver]) fun (d2 : List AV) => bK (decide (0 + (0 + (List.map (mkV true Mark_tfs) l).length) ≤ d2.length)) (some { pan := false, res := AV.slc false (List.take (0 + (List.map (mkV true Mark_tfs) l).length) (List.drop 0 d2)), out := [], new := [] }) none) none) (bK (decide (0 + (0 + (List.map (mkV true Mark_tfs) l).length) ≤ ([] ++ List.map (mkV true Mark_tfs) l).length)) (some { pan := false, res := AV.slc false (List.take (0 + (List.map (mkV true Mark_tfs) l).length) (List.drop 0 ([] ++ List.map (mkV true Mark_tfs) l))), out := [], new := [] }) none)) (bK (decide (0 + (0 + (List.map (mkV true Mark_tfs) l).length) ≤ ([] ++ List.map (mkV true Mark_tfs) l).length)) (some { pan := false, res := AV.slc false (List.take (0 + (List.map (mkV true Mark_tfs) l).length) (List.drop 0 ([] ++ List.map (mkV true Mark_tfs) l))), out := [], new := [] }) none))
        (bK (decide (0 + (0 + (List.map (mkV true Mark_tfs) l).length) ≤ ([] ++ List.map (mkV true Mark_tfs) l).length)) (some { pan := false, res := AV.slc false (List.take (0 + (List.map (mkV true Mark_tfs) l).length) (List.drop 0 ([] ++ List.map (mkV true Mark_tfs) l))), out := [], new := [] }) none))
      none))
  none
theorem putR_w (l_x : Bool) (l : List Mark_T) (client : Int) (m_Seq : Int) (m_Err : Int) (m_File : Int) (m_Ver : Int) : unitQ Try.prog cfg PK2 LP0 false 10 (groupA putR_sh (Tu.mk putR_fs ((l_x, l), client, m_Seq, m_Err, m_File, m_Ver))) [] = putR_r l_x l client m_Seq m_Err m_File m_Ver := by kernel_rfl

def putRS : FS := ⟨putR_sh, putR_fs, putR_rsh, putR_rfs, fun d => d.1.2.length ≤ 100000, fun d => (false, putL d.1.2 d.2.1 d.2.2), none⟩
theorem putR_v (l_x : Bool) (l : List Mark_T) (client : Int) (m_Seq : Int) (m_Err : Int) (m_File : Int) (m_Ver : Int) (h : putRS.pre ((l_x, l), client, m_Seq, m_Err, m_File, m_Ver)) : putR_r l_x l client m_Seq m_Err m_File m_Ver = some (putRS.ret ((l_x, l), client, m_Seq, m_Err, m_File, m_Ver)) := by
  have h' : l.length ≤ 100000 := h
  show _ = some (putRS.out (false, putL l client (m_Seq, m_Err, m_File, m_Ver)))
  unfold putR_r
  simp only [List.length_map, List.nil_append, Nat.zero_add]
  rw [bK_pos (by simp [AV.cells, mkV, mkA, Tu.mk])]
  cases l with
  | nil =>
    refine bK_tq (Q := fun z => z = _) rfl ?_
    have e : putL [] client (m_Seq, m_Err, m_File, m_Ver) = [] := by unfold putL; split <;> rfl
    rw [e]
    refine bK_i (fun _ => ?_) (fun _ => rfl)
    exact bK_i (fun c => by simp at c; omega) (fun _ => rfl)
  | cons d l =>
    refine bK_fq (Q := fun z => z = _) rfl ?_
    generalize hL : d :: l = L at h' ⊢
    have hne : L.isEmpty = false := by rw [← hL]; rfl
    have ht : List.take L.length (List.drop 0 (List.map (mkV true Mark_tfs) L)) = List.map (mkV true Mark_tfs) L := by rw [List.drop_zero, List.take_of_length_le (by simp)]
    rw [ht, bK_pos (by rw [Bool.true_and]; exact fit25 (by omega))]
    refine bK_i (fun c1 => ?_) (fun c1 => ?_)
    · refine bK_i (fun c2 => ?_) (fun c2 => ?_)
      · have c2' : client ≤ (L.length : Int) := by simpa using c2
        have hi : (client - 1).toNat < L.length := by omega
        rw [w64 (n := client - 1) (by omega) (by omega)]
        refine (oK_atD rfl (0, 0, 0, 0) (by omega) hi).trans ?_
        refine bK_i (fun c3 => ?_) (fun c3 => ?_)
        · rw [bK_pos (by simp; omega)]
          refine (oK_pos (stMark L _ hi (m_Seq, m_Err, m_File, m_Ver))).trans ?_
          rw [bK_pos (by simp)]
          unfold putL
          rw [if_pos ⟨c1, c2', c3⟩, List.drop_zero, List.take_of_length_le (by simp)]
          rfl
        · rw [bK_pos (by simp)]
          unfold putL
          rw [if_neg (fun hh => c3 hh.2.2)]
          rfl
      · rw [bK_pos (by simp)]
        unfold putL
        rw [if_neg (fun hh => c2 (by simpa using hh.2.1))]
        rfl
    · rw [bK_pos (by simp)]
      unfold putL
      rw [if_neg (fun hh => c1 hh.1)]
      rfl
theorem putR_ok : ∀ (d : Tu putR_fs), putRS.pre d → unitQ Try.prog cfg PK2 LP0 false 10 (putRS.args d) [] = some (putRS.ret d)
  | ((l_x, l), client, m_Seq, m_Err, m_File, m_Ver), h => (putR_w l_x l client m_Seq m_Err m_File m_Ver).trans (putR_v l_x l client m_Seq m_Err m_File m_Ver h)
noncomputable def PK3 : PKs := PK2.add 10 putRS.pk
theorem PK3_ok : PKsOk Try.prog PK3 := PKsOk.fs (cfg := cfg) PK2_ok (fnOk PK2_ok 21) 10 rfl LP0 fLoops_none putRS putR_ok

/-- A client's mark, if it is of a number. -/
def isL (l : List Mark_T) (c q : Int) : Mark_T × Bool := if 1 ≤ c ∧ c ≤ (l.length : Int) ∧ 1 ≤ q ∧ (l.getD (c - 1).toNat (0, 0, 0, 0)).1 = q then (l.getD (c - 1).toNat (0, 0, 0, 0), true) else ((0, 0, 0, 0), false)
abbrev isM_id : Nat := 12
abbrev isM_sh : Shp := [none, none, none]
abbrev isM_fs : List Lf := [.fl true Mark_tfs, .fi .i64, .fi .i64]
abbrev isM_rsh : Shp := [some 4, none]
abbrev isM_rfs : List Lf := [.fi .i64, .fi .i64, .fi .i64, .fi .i64, .fb]
noncomputable def isM_r (l_x : Bool) (l : List Mark_T) (client : Int) (seq : Int) : Option Ret :=
  bK (decide (1 ≤ client)) (bK (!decide (client ≤ (↑(List.map (mkV true Mark_tfs) l).length : Int))) (some { pan := false, res := AV.tup [AV.agg [AV.int IntKind.i64 0, AV.int IntKind.i64 0, AV.int IntKind.i64 0, AV.int IntKind.i64 0], AV.bool false], out := [], new := [] }) (bK (decide (seq ≤ 0)) (some { pan := false, res := AV.tup [AV.agg [AV.int IntKind.i64 0, AV.int IntKind.i64 0, AV.int IntKind.i64 0, AV.int IntKind.i64 0], AV.bool false], out := [], new := [] }) (oK (elemAt true Mark_tfs (List.map (mkV true Mark_tfs) l) (IntKind.i64.wrap (client - 1))) fun (d0 : Int × Int × Int × Int) => bK (!decide (d0.fst = seq)) (some { pan := false, res := AV.tup [AV.agg [AV.int IntKind.i64 0, AV.int IntKind.i64 0, AV.int IntKind.i64 0, AV.int IntKind.i64 0], AV.bool false], out := [], new := [] }) (oK (elemAt true Mark_tfs (List.map (mkV true Mark_tfs) l) (IntKind.i64.wrap (client - 1))) fun (d1 : Int × Int × Int × Int) => some { pan := false, res := AV.tup [AV.agg [AV.int IntKind.i64 d1.fst, AV.int IntKind.i64 d1.snd.fst, AV.int IntKind.i64 d1.snd.snd.fst, AV.int IntKind.i64 d1.snd.snd.snd], AV.bool true], out := [], new := [] })))) (some { pan := false, res := AV.tup [AV.agg [AV.int IntKind.i64 0, AV.int IntKind.i64 0, AV.int IntKind.i64 0, AV.int IntKind.i64 0], AV.bool false], out := [], new := [] })
theorem isM_w (l_x : Bool) (l : List Mark_T) (client : Int) (seq : Int) : unitQ Try.prog cfg PK3 LP0 false 12 (groupA isM_sh (Tu.mk isM_fs ((l_x, l), client, seq))) [] = isM_r l_x l client seq := by kernel_rfl

def isMS : FS := ⟨isM_sh, isM_fs, isM_rsh, isM_rfs, fun d => d.1.2.length ≤ 100000, fun d => let y := isL d.1.2 d.2.1 d.2.2; (y.1.1, y.1.2.1, y.1.2.2.1, y.1.2.2.2, y.2), none⟩
theorem isM_v (l_x : Bool) (l : List Mark_T) (client : Int) (seq : Int) (h : isMS.pre ((l_x, l), client, seq)) : isM_r l_x l client seq = some (isMS.ret ((l_x, l), client, seq)) := by
  have h' : l.length ≤ 100000 := h
  show _ = some (isMS.out (let y := isL l client seq; (y.1.1, y.1.2.1, y.1.2.2.1, y.1.2.2.2, y.2)))
  unfold isM_r
  simp only [List.length_map]
  refine bK_i (fun c1 => bK_n (fun c2 => ?_) (fun c2 => bK_i (fun c3 => ?_) (fun c3 => ?_))) (fun c1 => ?_)
  · unfold isL; rw [if_neg (fun hh => c2 hh.2.1)]; rfl
  · unfold isL; rw [if_neg (by omega)]; rfl
  · rw [w64 (n := client - 1) (by omega) (by omega)]
    have hi : (client - 1).toNat < l.length := by omega
    refine (oK_atD rfl (0, 0, 0, 0) (by omega) hi).trans ?_
    refine bK_n (fun c4 => ?_) (fun c4 => ?_)
    · unfold isL; rw [if_neg (fun hh => c4 hh.2.2.2)]; rfl
    · refine (oK_atD rfl (0, 0, 0, 0) (by omega) hi).trans ?_
      unfold isL; rw [if_pos ⟨c1, c2, by omega, c4⟩]; rfl
  · unfold isL; rw [if_neg (fun hh => c1 hh.1)]; rfl
theorem isM_ok : ∀ (d : Tu isM_fs), isMS.pre d → unitQ Try.prog cfg PK3 LP0 false 12 (isMS.args d) [] = some (isMS.ret d)
  | ((l_x, l), client, seq), h => (isM_w l_x l client seq).trans (isM_v l_x l client seq h)
noncomputable def PK4 : PKs := PK3.add 12 isMS.pk
theorem PK4_ok : PKsOk Try.prog PK4 := PKsOk.fs (cfg := cfg) PK3_ok (fnOk PK3_ok 21) 12 rfl LP0 fLoops_none isMS isM_ok

abbrev isR_id : Nat := 13
abbrev isR_sh : Shp := [none, none, none]
abbrev isR_fs : List Lf := [.fl true Mark_tfs, .fi .i64, .fi .i64]
abbrev isR_rsh : Shp := [some 4, none]
abbrev isR_rfs : List Lf := [.fi .i64, .fi .i64, .fi .i64, .fi .i64, .fb]
noncomputable def isR_r (l_x : Bool) (l : List Mark_T) (client : Int) (seq : Int) : Option Ret :=
  bK (decide (client < 1)) (some { pan := false, res := AV.tup [AV.agg [AV.int IntKind.i64 0, AV.int IntKind.i64 0, AV.int IntKind.i64 0, AV.int IntKind.i64 0], AV.bool false], out := [], new := [] }) (bK (decide ((↑(List.map (mkV true Mark_tfs) l).length : Int) < client)) (some { pan := false, res := AV.tup [AV.agg [AV.int IntKind.i64 0, AV.int IntKind.i64 0, AV.int IntKind.i64 0, AV.int IntKind.i64 0], AV.bool false], out := [], new := [] }) (bK (decide (seq < 1)) (some { pan := false, res := AV.tup [AV.agg [AV.int IntKind.i64 0, AV.int IntKind.i64 0, AV.int IntKind.i64 0, AV.int IntKind.i64 0], AV.bool false], out := [], new := [] }) (oK (elemAt true Mark_tfs (List.map (mkV true Mark_tfs) l) (IntKind.i64.wrap (client - 1))) fun (d0 : Int × Int × Int × Int) => bK (!decide (d0.fst = seq)) (some { pan := false, res := AV.tup [AV.agg [AV.int IntKind.i64 0, AV.int IntKind.i64 0, AV.int IntKind.i64 0, AV.int IntKind.i64 0], AV.bool false], out := [], new := [] }) (oK (elemAt true Mark_tfs (List.map (mkV true Mark_tfs) l) (IntKind.i64.wrap (client - 1))) fun (d1 : Int × Int × Int × Int) => some { pan := false, res := AV.tup [AV.agg [AV.int IntKind.i64 d1.fst, AV.int IntKind.i64 d1.snd.fst, AV.int IntKind.i64 d1.snd.snd.fst, AV.int IntKind.i64 d1.snd.snd.snd], AV.bool true], out := [], new := [] }))))
theorem isR_w (l_x : Bool) (l : List Mark_T) (client : Int) (seq : Int) : unitQ Try.prog cfg PK4 LP0 false 13 (groupA isR_sh (Tu.mk isR_fs ((l_x, l), client, seq))) [] = isR_r l_x l client seq := by kernel_rfl

def isRS : FS := ⟨isR_sh, isR_fs, isR_rsh, isR_rfs, fun d => d.1.2.length ≤ 100000, fun d => let y := isL d.1.2 d.2.1 d.2.2; (y.1.1, y.1.2.1, y.1.2.2.1, y.1.2.2.2, y.2), none⟩
theorem isR_v (l_x : Bool) (l : List Mark_T) (client : Int) (seq : Int) (h : isRS.pre ((l_x, l), client, seq)) : isR_r l_x l client seq = some (isRS.ret ((l_x, l), client, seq)) := by
  have h' : l.length ≤ 100000 := h
  show _ = some (isRS.out (let y := isL l client seq; (y.1.1, y.1.2.1, y.1.2.2.1, y.1.2.2.2, y.2)))
  unfold isR_r
  simp only [List.length_map]
  refine bK_i (fun c1 => ?_) (fun c1 => bK_i (fun c2 => ?_) (fun c2 => bK_i (fun c3 => ?_) (fun c3 => ?_)))
  · unfold isL; rw [if_neg (by omega)]; rfl
  · unfold isL; rw [if_neg (by omega)]; rfl
  · unfold isL; rw [if_neg (by omega)]; rfl
  · rw [w64 (n := client - 1) (by omega) (by omega)]
    have hi : (client - 1).toNat < l.length := by omega
    refine (oK_atD rfl (0, 0, 0, 0) (by omega) hi).trans ?_
    refine bK_n (fun c4 => ?_) (fun c4 => ?_)
    · unfold isL; rw [if_neg (fun hh => c4 hh.2.2.2)]; rfl
    · refine (oK_atD rfl (0, 0, 0, 0) (by omega) hi).trans ?_
      unfold isL; rw [if_pos ⟨by omega, by omega, by omega, c4⟩]; rfl
theorem isR_ok : ∀ (d : Tu isR_fs), isRS.pre d → unitQ Try.prog cfg PK4 LP0 false 13 (isRS.args d) [] = some (isRS.ret d)
  | ((l_x, l), client, seq), h => (isR_w l_x l client seq).trans (isR_v l_x l client seq h)
noncomputable def PK5 : PKs := PK4.add 13 isRS.pk
theorem PK5_ok : PKsOk Try.prog PK5 := PKsOk.fs (cfg := cfg) PK4_ok (fnOk PK4_ok 21) 13 rfl LP0 fLoops_none isRS isR_ok

abbrev newM_id : Nat := 7
abbrev newM_sh : Shp := [none]
abbrev newM_fs : List Lf := [.fi .i64]
abbrev newM_rsh : Shp := [none]
abbrev newM_rfs : List Lf := [.fl true Mark_tfs]
noncomputable def newM_r (n : Int) : Option Ret :=
  bK (decide (n < 1)) (some { pan := false, res := AV.slc true [], out := [], new := [] }) (bK (decide (n = n ∧ 0 ≤ n ∧ n ≤ 1000000000) && bytesFit Try.prog 25 n.toNat) (bK (decide (0 + (List.replicate n.toNat (AV.agg [AV.int IntKind.i64 0, AV.int IntKind.i64 0, AV.int IntKind.i64 0, AV.int IntKind.i64 0])).length ≤ (List.replicate n.toNat (AV.agg [AV.int IntKind.i64 0, AV.int IntKind.i64 0, AV.int IntKind.i64 0, AV.int IntKind.i64 0])).length)) (some { pan := false, res := AV.slc false (List.take (List.replicate n.toNat (AV.agg [AV.int IntKind.i64 0, AV.int IntKind.i64 0, AV.int IntKind.i64 0, AV.int IntKind.i64 0])).length (List.drop 0 (List.replicate n.toNat (AV.agg [AV.int IntKind.i64 0, AV.int IntKind.i64 0, AV.int IntKind.i64 0, AV.int IntKind.i64 0])))), out := [], new := [] }) none) none)
theorem newM_w (n : Int) : unitQ Try.prog cfg PK5 LP0 false 7 (groupA newM_sh (Tu.mk newM_fs n)) [] = newM_r n := by kernel_rfl

/-- So many marks of nothing. -/
def newMS : FS := ⟨newM_sh, newM_fs, newM_rsh, newM_rfs, fun n => (n : Int) ≤ 1000, fun n => (decide ((n : Int) < 1), List.replicate (n : Int).toNat (0, 0, 0, 0)), none⟩
theorem newM_v (n : Int) (h : newMS.pre n) : newM_r n = some (newMS.ret n) := by
  have h' : n ≤ 1000 := h
  show _ = some (newMS.out (decide (n < 1), List.replicate n.toNat (0, 0, 0, 0)))
  unfold newM_r
  refine bK_i (fun c1 => ?_) (fun c1 => ?_)
  · have : n.toNat = 0 := by omega
    rw [this, decide_eq_true c1]; rfl
  · rw [bK_pos (by rw [fit25 (by omega), Bool.and_true]; exact decide_eq_true ⟨rfl, by omega, by omega⟩), bK_pos (by simp), decide_eq_false c1]
    rw [List.drop_zero, List.take_of_length_le (by simp)]
    show _ = some (Ret.mk false (AV.slc false ((List.replicate n.toNat ((0, 0, 0, 0) : Mark_T)).map (mkV true Mark_tfs))) [] [])
    rw [List.map_replicate]; rfl
theorem newM_ok : ∀ (d : Tu newM_fs), newMS.pre d → unitQ Try.prog cfg PK5 LP0 false 7 (newMS.args d) [] = some (newMS.ret d)
  | n, h => (newM_w n).trans (newM_v n h)
noncomputable def PK6 : PKs := PK5.add 7 newMS.pk
theorem PK6_ok : PKsOk Try.prog PK6 := PKsOk.fs (cfg := cfg) PK5_ok (fnOk PK5_ok 21) 7 rfl LP0 fLoops_none newMS newM_ok

abbrev newR_id : Nat := 8
abbrev newR_sh : Shp := []
abbrev newR_fs : List Lf := []
abbrev newR_rsh : Shp := [some 3]
abbrev newR_rfs : List Lf := [.fl true File_tfs, .fl true Mark_tfs, .fi .i64]
noncomputable def newR_r  : Option Ret :=
  some { pan := false, res := AV.agg [AV.slc false [AV.agg [AV.str [], AV.int IntKind.i64 0, AV.str []], AV.agg [AV.str [], AV.int IntKind.i64 0, AV.str []], AV.agg [AV.str [], AV.int IntKind.i64 0, AV.str []], AV.agg [AV.str [], AV.int IntKind.i64 0, AV.str []], AV.agg [AV.str [], AV.int IntKind.i64 0, AV.str []], AV.agg [AV.str [], AV.int IntKind.i64 0, AV.str []]], AV.slc false [AV.agg [AV.int IntKind.i64 0, AV.int IntKind.i64 0, AV.int IntKind.i64 0, AV.int IntKind.i64 0], AV.agg [AV.int IntKind.i64 0, AV.int IntKind.i64 0, AV.int IntKind.i64 0, AV.int IntKind.i64 0], AV.agg [AV.int IntKind.i64 0, AV.int IntKind.i64 0, AV.int IntKind.i64 0, AV.int IntKind.i64 0]], AV.int IntKind.i64 0], out := [], new := [] }
theorem newR_w  : unitQ Try.prog cfg PK6 LP0 false 8 (groupA newR_sh (Tu.mk newR_fs ())) [] = newR_r  := by kernel_rfl

def newRS : FS := ⟨newR_sh, newR_fs, newR_rsh, newR_rfs, fun _ => True, fun _ => ((false, List.replicate 6 ([], 0, [])), (false, List.replicate 3 (0, 0, 0, 0)), 0), none⟩
theorem newR_v  (h : newRS.pre ()) : newR_r  = some (newRS.ret ()) := rfl
theorem newR_ok : ∀ (d : Tu newR_fs), newRS.pre d → unitQ Try.prog cfg PK6 LP0 false 8 (newRS.args d) [] = some (newRS.ret d)
  | (), h => (newR_w ).trans (newR_v  h)
noncomputable def PK7 : PKs := PK6.add 8 newRS.pk
theorem PK7_ok : PKsOk Try.prog PK7 := PKsOk.fs (cfg := cfg) PK6_ok (fnOk PK6_ok 21) 8 rfl LP0 fLoops_none newRS newR_ok

end Go.Proofs.Ythdmjojanccjfaa
