/- A part of the proof: contracts of functions. -/
import Derived.Test.YtlhnpfpdjlcakaaR
import Derived.Test.YtlhnpfpdjlcakaaAbCl

set_option linter.unusedVariables false
set_option linter.unusedSimpArgs false
set_option maxRecDepth 100000
namespace Go.Proofs.Ytlhnpfpdjlcakaa
open Go Go.Ab
def dN (s : Int) (m : Nat) : Nat := (maxI (minI s (m : Int)) 0).toNat
theorem dN_le (s : Int) (m : Nat) : dN s m ≤ m := by unfold dN maxI minI; split <;> split <;> omega
theorem dN_pos (s : Int) (m : Nat) : 0 ≤ maxI (minI s (m : Int)) 0 := by unfold maxI; split <;> omega
theorem dN_eq (s : Int) (m : Nat) : (minI (maxI s 0) (m : Int)).toNat = dN s m := by unfold dN maxI minI; (repeat' split) <;> omega
theorem dN_pos2 (s : Int) (m : Nat) : 0 ≤ minI (maxI s 0) (m : Int) := by unfold maxI minI; split <;> split <;> omega
def dnOk (c : Cache_T) : Prop := c.2.2.2.1.length ≤ 24 ∧ c.2.2.2.2.1.2.length ≤ 1000
def doneY (c : Cache_T) (v : Int) (x : Bool) : Cache_T := (c.1, c.2.1, v, allF c.2.2.2.1 (c.2.2.2.2.1.2.take (dN c.2.2.2.2.2.1 c.2.2.2.2.1.2.length)), (x, c.2.2.2.2.1.2.drop (dN c.2.2.2.2.2.1 c.2.2.2.2.1.2.length)), 0, c.2.2.2.2.2.2.1, c.2.2.2.2.2.2.2)
/-- What was under way is done. -/
def doneCF (c : Cache_T) (v : Int) : Cache_T := if c.1 = 2 then doneY c v (c.2.2.2.2.1.2.drop (dN c.2.2.2.2.2.1 c.2.2.2.2.1.2.length)).isEmpty else twinF c
def doneXF (c : Cache_T) (v : Int) : Cache_T := if c.1 = 2 then doneY c v false else c
noncomputable def doneS : FS := ⟨done_sh, done_fs, done_rsh, done_rfs, fun d => dnOk (cOf d), fun d => doneCF (cOf d) (nOf d), none⟩
noncomputable def doneRS : FS := ⟨doneR_sh, doneR_fs, doneR_rsh, doneR_rfs, fun d => dnOk (cOf d), fun d => doneXF (cOf d) (nOf d), none⟩
set_option maxHeartbeats 1000000 in
theorem done_v (c_Mode : Int) (c_Until : Int) (c_Ver : Int) (c_Body : List UInt8) (c_Dirty_x : Bool) (c_Dirty : List Write_T) (c_Sent : Int) (c_Called : Bool) (c_Lost : Bool) (ver : Int) (h : doneS.pre (c_Mode, c_Until, c_Ver, c_Body, (c_Dirty_x, c_Dirty), c_Sent, c_Called, c_Lost, ver)) : done_r c_Mode c_Until c_Ver c_Body c_Dirty_x c_Dirty c_Sent c_Called c_Lost ver = some (doneS.ret (c_Mode, c_Until, c_Ver, c_Body, (c_Dirty_x, c_Dirty), c_Sent, c_Called, c_Lost, ver)) := by
  have hb : c_Body.length ≤ 24 := h.1
  have hd : c_Dirty.length ≤ 1000 := h.2
  have hl : c_Dirty.length ≤ 100000 := by omega
  show _ = some (doneS.out (doneCF (c_Mode, c_Until, c_Ver, c_Body, (c_Dirty_x, c_Dirty), c_Sent, c_Called, c_Lost) ver))
  have hc : (cloneF (c_Dirty_x, c_Dirty)).2 = c_Dirty := rfl
  have no : c_Mode ≠ 2 → doneCF (c_Mode, c_Until, c_Ver, c_Body, (c_Dirty_x, c_Dirty), c_Sent, c_Called, c_Lost) ver = twinF (c_Mode, c_Until, c_Ver, c_Body, (c_Dirty_x, c_Dirty), c_Sent, c_Called, c_Lost) := fun h => by
    unfold doneCF
    rw [if_neg h]
  have yes : c_Mode = 2 → doneCF (c_Mode, c_Until, c_Ver, c_Body, (c_Dirty_x, c_Dirty), c_Sent, c_Called, c_Lost) ver = doneY (c_Mode, c_Until, c_Ver, c_Body, (c_Dirty_x, c_Dirty), c_Sent, c_Called, c_Lost) ver (c_Dirty.drop (dN c_Sent c_Dirty.length)).isEmpty := fun h => by
    unfold doneCF
    rw [if_pos h]
  have hn := dN_le c_Sent c_Dirty.length
  have tl : ∀ (x : Bool) (E : List Write_T) (n : Nat), E = c_Dirty.drop (dN c_Sent c_Dirty.length) → c_Mode = 2 → tw3 x E (fun v => some { pan := false, res := AV.agg [AV.int IntKind.i64 c_Mode, AV.int IntKind.i64 c_Until, AV.int IntKind.i64 ver, AV.str (allF c_Body (c_Dirty.take (dN c_Sent c_Dirty.length))), v, AV.int IntKind.i64 0, AV.bool c_Called, AV.bool c_Lost], out := [], new := [] }) = some (doneS.out (doneCF (c_Mode, c_Until, c_Ver, c_Body, (c_Dirty_x, c_Dirty), c_Sent, c_Called, c_Lost) ver)) := fun x E n he hm => by
    rw [tw3_eq (by rw [he, List.length_drop]; omega), yes hm, he]
    rfl
  unfold done_r
  refine oK_fsq (Q := fun z => z = _) cloneS (c_Dirty_x, c_Dirty) hl ?_
  have hlm : (List.map (mkV true Write_tfs) c_Dirty).length = c_Dirty.length := List.length_map _
  simp only [hc, hlm]
  refine bK_b (fun c4 => ?_) (fun c4 => ?_)
  · have e : c_Dirty = [] := by simpa using c4
    have e0 : (maxI (minI c_Sent 0) 0).toNat = 0 := by exact Nat.le_zero.1 (dN_le c_Sent 0)
    have e1 : dN c_Sent c_Dirty.length = 0 := by rw [e]; have := dN_le c_Sent 0; simpa using this
    refine bK_n (fun c2 => ?_) (fun c2 => ?_)
    · rw [no c2, e]; rfl
    · refine bK_tq (Q := fun z => z = _) (decide_eq_true (dN_pos c_Sent 0)) ?_
      rw [e0]
      refine bK_tq (Q := fun z => z = _) rfl ?_
      refine oK_fsq (Q := fun z => z = _) allWS (c_Body, (true, [])) ⟨hb, by show ([] : List Write_T).length ≤ 1000; simp⟩ ?_
      refine bK_tq (Q := fun z => z = _) (decide_eq_true (dN_pos c_Sent 0)) (bK_tq (Q := fun z => z = _) rfl ?_)
      have := tl true [] 0 (by rw [e]; simp) c2
      rw [e1, List.take_zero] at this
      exact this
  · refine bK_n (fun c2 => ?_) (fun c2 => ?_)
    · rw [bK_pos (by simp), no c2, List.drop_zero, List.take_of_length_le (by simp)]
      have hx : c_Dirty.isEmpty = false := by simpa using c4
      unfold twinF
      simp only [hx]
      rfl
    · have hp := dN_pos c_Sent c_Dirty.length
      have hn' : (maxI (minI c_Sent (c_Dirty.length : Int)) 0).toNat = dN c_Sent c_Dirty.length := rfl
      rw [hn']
      refine bK_tq (Q := fun z => z = _) (by simp) (bK_tq (Q := fun z => z = _) (decide_eq_true hp) (bK_tq (Q := fun z => z = _) (decide_eq_true ⟨Nat.zero_le _, by omega⟩) (bK_tq (Q := fun z => z = _) (decide_eq_true (by omega)) ?_)))
      rw [Nat.sub_zero, List.drop_zero, ← List.map_take]
      refine oK_fsq (Q := fun z => z = _) allWS (c_Body, (false, c_Dirty.take (dN c_Sent c_Dirty.length))) ⟨hb, by show (List.take _ _).length ≤ 1000; rw [List.length_take]; omega⟩ ?_
      refine bK_tq (Q := fun z => z = _) (decide_eq_true hp) (bK_tq (Q := fun z => z = _) (decide_eq_true ⟨hn, by omega⟩) ?_)
      refine bK_i (fun c5 => ?_) (fun c5 => ?_)
      · refine bK_tq (Q := fun z => z = _) (decide_eq_true (by omega)) ?_
        rw [Nat.zero_add, ← List.map_drop, ← List.map_take, List.take_of_length_le (by rw [List.length_drop]; exact Nat.le_refl _)]
        exact tl false _ 0 rfl c2
      · exact tl false [] 0 (by rw [List.drop_of_length_le (by omega)]) c2
theorem done_ok : ∀ (d : Tu done_fs), doneS.pre d → unitQ Try.prog cfg PKd LP0 false 17 (doneS.args d) [] = some (doneS.ret d)
  | (c_Mode, c_Until, c_Ver, c_Body, (c_Dirty_x, c_Dirty), c_Sent, c_Called, c_Lost, ver), h => (done_w c_Mode c_Until c_Ver c_Body c_Dirty_x c_Dirty c_Sent c_Called c_Lost ver).trans (done_v c_Mode c_Until c_Ver c_Body c_Dirty_x c_Dirty c_Sent c_Called c_Lost ver h)
noncomputable def PKv11 : PKs := PKd.add 17 doneS.pk
theorem PKv11_ok : PKsOk Try.prog PKv11 := PKsOk.fs (cfg := cfg) PKd_ok (fnOk PKd_ok 21) 17 rfl LP0 fLoops_none doneS done_ok

set_option maxHeartbeats 1000000 in
theorem doneR_v (c_Mode : Int) (c_Until : Int) (c_Ver : Int) (c_Body : List UInt8) (c_Dirty_x : Bool) (c_Dirty : List Write_T) (c_Sent : Int) (c_Called : Bool) (c_Lost : Bool) (ver : Int) (h : doneRS.pre (c_Mode, c_Until, c_Ver, c_Body, (c_Dirty_x, c_Dirty), c_Sent, c_Called, c_Lost, ver)) : doneR_r c_Mode c_Until c_Ver c_Body c_Dirty_x c_Dirty c_Sent c_Called c_Lost ver = some (doneRS.ret (c_Mode, c_Until, c_Ver, c_Body, (c_Dirty_x, c_Dirty), c_Sent, c_Called, c_Lost, ver)) := by
  have hb : c_Body.length ≤ 24 := h.1
  have hd : c_Dirty.length ≤ 1000 := h.2
  show _ = some (doneRS.out (doneXF (c_Mode, c_Until, c_Ver, c_Body, (c_Dirty_x, c_Dirty), c_Sent, c_Called, c_Lost) ver))
  unfold doneR_r
  have hn := dN_le c_Sent c_Dirty.length
  have hp := dN_pos2 c_Sent c_Dirty.length
  have hall : ∀ l : List Write_T, ((List.map (mkV true Write_tfs) l).all fun (y : AV) => decide (y.cells.length = 2)) = true := by intro l; simp [AV.cells, mkV, mkA, Tu.mk]
  simp only [List.length_map, dN_eq]
  refine bK_n (fun c2 => ?_) (fun c2 => ?_)
  · unfold doneXF
    rw [if_neg c2]
    rfl
  · have yes : doneXF (c_Mode, c_Until, c_Ver, c_Body, (c_Dirty_x, c_Dirty), c_Sent, c_Called, c_Lost) ver = doneY (c_Mode, c_Until, c_Ver, c_Body, (c_Dirty_x, c_Dirty), c_Sent, c_Called, c_Lost) ver false := by
      unfold doneXF
      rw [if_pos c2]
    rw [yes]
    refine bK_tq (Q := fun z => z = _) (hall _) (bK_tq (Q := fun z => z = _) (decide_eq_true hp) (bK_tq (Q := fun z => z = _) (decide_eq_true ⟨Nat.zero_le _, hn⟩) ?_))
    rw [Nat.sub_zero, List.drop_zero, ← List.map_take]
    refine oK_fsq (Q := fun z => z = _) allRS (c_Body, (_, c_Dirty.take (dN c_Sent c_Dirty.length))) ⟨hb, by show (List.take _ _).length ≤ 1000; rw [List.length_take]; omega⟩ ?_
    refine bK_tq (Q := fun z => z = _) (decide_eq_true hp) (bK_tq (Q := fun z => z = _) (hall _) (bK_tq (Q := fun z => z = _) (decide_eq_true ⟨hn, Nat.le_refl _⟩) ?_))
    rw [← List.map_drop, ← List.map_take, List.take_of_length_le (by rw [List.length_drop]; exact Nat.le_refl _)]
    refine bK_tq (Q := fun z => z = _) (hall _) ?_
    have hE : (c_Dirty.drop (dN c_Sent c_Dirty.length)).length ≤ 1000 := by rw [List.length_drop]; omega
    have hv : doneY (c_Mode, c_Until, c_Ver, c_Body, (c_Dirty_x, c_Dirty), c_Sent, c_Called, c_Lost) ver false = (c_Mode, c_Until, ver, allF c_Body (c_Dirty.take (dN c_Sent c_Dirty.length)), (false, c_Dirty.drop (dN c_Sent c_Dirty.length)), 0, c_Called, c_Lost) := rfl
    rw [hv]
    generalize c_Dirty.drop (dN c_Sent c_Dirty.length) = E at hE ⊢
    refine bK_b (fun c4 => ?_) (fun c4 => ?_)
    · have e : E = [] := by simpa using c4
      subst e
      rfl
    · refine bK_tq (Q := fun z => z = _) (by simp [fit24 (show E.length ≤ 1000000 by omega)]) (bK_tq (Q := fun z => z = _) (by simp) ?_)
      have e2 : List.take E.length (List.map (mkV true Write_tfs) E) = List.map (mkV true Write_tfs) E := List.take_of_length_le (by simp)
      rw [List.nil_append, List.drop_zero, List.length_map, Nat.zero_add, e2]
      rfl
theorem doneR_ok : ∀ (d : Tu doneR_fs), doneRS.pre d → unitQ Try.prog cfg PKd LP0 false 18 (doneRS.args d) [] = some (doneRS.ret d)
  | (c_Mode, c_Until, c_Ver, c_Body, (c_Dirty_x, c_Dirty), c_Sent, c_Called, c_Lost, ver), h => (doneR_w c_Mode c_Until c_Ver c_Body c_Dirty_x c_Dirty c_Sent c_Called c_Lost ver).trans (doneR_v c_Mode c_Until c_Ver c_Body c_Dirty_x c_Dirty c_Sent c_Called c_Lost ver h)
noncomputable def PKv12 : PKs := PKd.add 18 doneRS.pk
theorem PKv12_ok : PKsOk Try.prog PKv12 := PKsOk.fs (cfg := cfg) PKd_ok (fnOk PKd_ok 21) 18 rfl LP0 fLoops_none doneRS doneR_ok

end Go.Proofs.Ytlhnpfpdjlcakaa
