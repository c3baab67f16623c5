/- A part of the proof: contracts of functions. -/
import Derived.Test.YtacpbgkljdgmlaaQ
import Derived.Test.YtacpbgkljdgmlaaAbAny

set_option linter.unusedVariables false
set_option linter.unusedSimpArgs false
set_option maxRecDepth 100000
namespace Go.Proofs.Ytacpbgkljdgmlaa
open Go Go.Ab
def sgh (x : Bool) (a : List Gram_T) (y : Bool) (b : List Gram_T) (i : Int) : St := { fr := [(0, .slc x (a.map (mkV true Gram_tfs))), (1, .slc y (b.map (mkV true Gram_tfs))), (5, .int .i64 i)], bs := [], df := [] }
noncomputable def sgs (x : Bool) (a : List Gram_T) (y : Bool) (b : List Gram_T) (i : Int) : Option (St ⊕ (Ex × St)) := stepK Try.prog cfg PKz LP0 17 0 (sgh x a y b i)
noncomputable def sgs_r (x : Bool) (a : List Gram_T) (y : Bool) (b : List Gram_T) (i : Int) : Option (St ⊕ Ex × St) :=
  bK (decide (i < (↑(List.map (mkV true Gram_tfs) a).length : Int))) (oK (elemAt true Gram_tfs (List.map (mkV true Gram_tfs) a) i) fun (d0 : Int × List UInt8 × Bool) => oK (elemAt true Gram_tfs (List.map (mkV true Gram_tfs) b) i) fun (d1 : Int × List UInt8 × Bool) => bK (!(decide (d0.fst = d1.fst) && (decide (d0.snd.fst = d1.snd.fst) && (d0.snd.snd == d1.snd.snd && true)))) (some (Sum.inr (Ex.ret, { fr := [(4, AV.bool false)], bs := [], df := [] }))) (some (Sum.inl { fr := [(0, AV.slc x (List.map (mkV true Gram_tfs) a)), (1, AV.slc y (List.map (mkV true Gram_tfs) b)), (5, AV.int IntKind.i64 (IntKind.i64.wrap (i + 1)))], bs := [], df := [] }))) (some (Sum.inr (Ex.exit 0, { fr := [], bs := [], df := [] })))
theorem sgs_w (x : Bool) (a : List Gram_T) (y : Bool) (b : List Gram_T) (i : Int) : sgs x a y b i = sgs_r x a y b i := by kernel_rfl

def sge : St := { fr := [], bs := [], df := [] }
def sgn : St := { fr := [(4, .bool false)], bs := [], df := [] }
theorem sglo : (loopsOf 0 (codeOf Try.prog 17)).map (·.1) = [0] := by kernel_rfl
theorem sgon : OneLoops Try.prog 17 := by unfold OneLoops; rw [sglo]; decide
theorem sgat : At 0 (codeOf Try.prog 17) 0 (.loop (bodyAt Try.prog 17 0)) := at_body sgon (by rw [sglo]; decide)
def sgx (e : Bool) : Ex × St := if e then (.exit 0, sge) else (.ret, sgn)
theorem sgrun (x : Bool) (a : List Gram_T) (y : Bool) (b : List Gram_T) (hl : a.length ≤ 100000) (hb : b.length = a.length) : ∀ (k i : Nat), i + k = a.length → ∀ (m : Nat), k < m →
    Runs' Try.prog cfg PKz 17 0 m (sgh x a y b i) (sgx (decide (a.drop i = b.drop i)))
  | 0, i, hi, m + 1, hm => by
    refine Runs'.done (lp := LP0) LPok.none sgat ((sgs_w x a y b i).trans ?_)
    unfold sgs_r
    rw [bK_neg (by simp; omega), List.drop_of_length_le (show a.length ≤ i by omega), List.drop_of_length_le (show b.length ≤ i by omega), decide_eq_true rfl]
    rfl
  | k + 1, i, hi, m + 1, hm => by
    have ha : i < a.length := by omega
    have hb' : i < b.length := by omega
    have hs : sgs x a y b i = (if a.getD i (0, [], false) = b.getD i (0, [], false) then some (.inl (sgh x a y b ((i + 1 : Nat) : Int))) else some (.inr (.ret, sgn))) := by
      refine (sgs_w x a y b i).trans ?_
      unfold sgs_r
      refine bK_tq (Q := fun z => z = _) (by simp; omega) ?_
      refine oK_atq (Q := fun z => z = _) (fs := Gram_tfs) (0, [], false) (by omega) (by simpa using ha) ?_
      refine oK_atq (Q := fun z => z = _) (fs := Gram_tfs) (0, [], false) (by omega) (by simpa using hb') ?_
      rw [Int.toNat_natCast]
      generalize a.getD i (0, [], false) = p
      generalize b.getD i (0, [], false) = q
      rw [w64 (by omega) (by omega)]
      by_cases e : p = q
      · rw [if_pos e]
        subst e
        rw [bK_neg (by simp)]
        rfl
      · rw [if_neg e, bK_pos (by rw [Bool.not_eq_true']; refine Bool.eq_false_iff.2 fun hh => e ?_; simpa [Prod.ext_iff] using hh)]
        rfl
    have ea : a.drop i = a.getD i (0, [], false) :: a.drop (i + 1) := by rw [List.drop_eq_getElem_cons ha, getD_at ha]
    have eb : b.drop i = b.getD i (0, [], false) :: b.drop (i + 1) := by rw [List.drop_eq_getElem_cons hb', getD_at hb']
    by_cases e : a.getD i (0, [], false) = b.getD i (0, [], false)
    · rw [if_pos e] at hs
      have : decide (a.drop i = b.drop i) = decide (a.drop (i + 1) = b.drop (i + 1)) := by
        rw [ea, eb, e]; simp
      rw [this]
      exact Runs'.step (lp := LP0) LPok.none sgat hs (sgrun x a y b hl hb k (i + 1) (by omega) m (by omega))
    · rw [if_neg e] at hs
      have : decide (a.drop i = b.drop i) = false := by
        rw [ea, eb]; exact decide_eq_false (fun h => e (List.cons.inj h).1)
      rw [this]
      exact Runs'.done (lp := LP0) LPok.none sgat hs
abbrev sgD : Type := Bool × List Gram_T × Bool × List Gram_T
def sgH (d : sgD) : St := sgh d.1 d.2.1 d.2.2.1 d.2.2.2 0
/-- Alike. -/
def sgQ (a b : List Gram_T) : Bool := decide (a = b)
noncomputable def sgL : LP := LP.of (D := sgD) sgH (fun d => d.2.1.length ≤ 100000 ∧ d.2.2.2.length = d.2.1.length) fun d => .ite (sgQ d.2.1 d.2.2.2) (.leaf (.exit 0, sge)) (.leaf (.ret, sgn))
noncomputable def sgP : LPs := LPs.add LP0 17 0 sgL
theorem sgP_ok : LPok Try.prog cfg PKz sgP 17 :=
  LPok.addH LPok.none sgon fun d h => by
    have := sgrun d.1 d.2.1 d.2.2.1 d.2.2.2 h.1 h.2 d.2.1.length 0 (by omega) rounds (by have : d.2.1.length ≤ 100000 := h.1; simp only [rounds]; omega)
    simp only [List.drop_zero] at this
    refine cast ?_ this
    congr 1
theorem sgH_inj (d d' : sgD) (h : sgH d = sgH d') : d = d' := by
  obtain ⟨x, a, y, b⟩ := d
  obtain ⟨x', a', y', b'⟩ := d'
  simp only [sgH, sgh, St.mk.injEq, List.cons.injEq, Prod.mk.injEq, AV.slc.injEq, and_true, true_and] at h
  obtain ⟨⟨h1, h2⟩, h3, h4⟩ := h
  rw [h1, map_inj (fs := Gram_tfs) rfl h2, h3, map_inj (fs := Gram_tfs) rfl h4]
abbrev sg_id : Nat := 17
abbrev sg_sh : Shp := [none, none]
abbrev sg_fs : List Lf := [.fl true Gram_tfs, .fl true Gram_tfs]
abbrev sg_rsh : Shp := [none]
abbrev sg_rfs : List Lf := [.fb]
noncomputable def sg_r (a_x : Bool) (a : List Gram_T) (b_x : Bool) (b : List Gram_T) : Option Ret :=
  bK (!decide ((↑(List.map (mkV true Gram_tfs) a).length : Int) = (↑(List.map (mkV true Gram_tfs) b).length : Int))) (some { pan := false, res := AV.bool false, out := [], new := [] }) (oK (sgL.dec { fr := [(0, AV.slc a_x (List.map (mkV true Gram_tfs) a)), (1, AV.slc b_x (List.map (mkV true Gram_tfs) b)), (5, AV.int IntKind.i64 0)], bs := [], df := [] }) fun (d0 : Bool × List (Int × List UInt8 × Bool) × Bool × List (Int × List UInt8 × Bool)) => bK (sgQ d0.snd.fst d0.snd.snd.snd) (some { pan := false, res := AV.bool true, out := [], new := [] }) (some { pan := false, res := AV.bool false, out := [], new := [] }))
theorem sg_w (a_x : Bool) (a : List Gram_T) (b_x : Bool) (b : List Gram_T) : unitQ Try.prog cfg PKz sgP false 17 (groupA sg_sh (Tu.mk sg_fs ((a_x, a), (b_x, b)))) [] = sg_r a_x a b_x b := by kernel_rfl

def sgS : FS := ⟨sg_sh, sg_fs, sg_rsh, sg_rfs, fun d => d.1.2.length ≤ 100000, fun d => sgQ d.1.2 d.2.2, none⟩
theorem sg_v (a_x : Bool) (a : List Gram_T) (b_x : Bool) (b : List Gram_T) (h : sgS.pre ((a_x, a), (b_x, b))) : sg_r a_x a b_x b = some (sgS.ret ((a_x, a), (b_x, b))) := by
  have h' : a.length ≤ 100000 := h
  show _ = some (sgS.out (sgQ a b))
  unfold sg_r
  simp only [List.length_map]
  refine bK_n (fun c1 => ?_) (fun c1 => ?_)
  · have : sgQ a b = false := decide_eq_false (by intro e; rw [e] at c1; exact c1 rfl)
    rw [this]; rfl
  · refine oK_lpq (Q := fun z => z = _) sgH_inj (a_x, a, b_x, b) ⟨h', by show b.length = a.length; omega⟩ ?_
    show bK (sgQ a b) _ _ = _
    cases sgQ a b <;> rfl
theorem sgO : ∀ d : Tu sgS.fs, sgS.pre d → CallOk Try.prog 17 (sgS.args d) [] (sgS.ret d)
  | ((a_x, a), (b_x, b)), h => CallOk.unit (fnOk PKz_ok 21) rfl sgP_ok.loops (o := false) (by show 0 ≤ 1000; decide) ((sg_w a_x a b_x b).trans (sg_v a_x a b_x b h))
theorem app1 (x : Bool) (l : List Gram_T) (g : Gram_T) : some ({ pan := false, res := .slc x (l.map (mkV true Gram_tfs) ++ [.agg [.int .i64 g.1, .str g.2.1, .bool g.2.2]]), out := [], new := [] } : Ret) = some { pan := false, res := .slc x ((l ++ [g]).map (mkV true Gram_tfs)), out := [], new := [] } := by
  rw [List.map_append]
  rfl
/-- Sent. -/
def sendF (l : List Gram_T) (g : Gram_T) : List Gram_T := if l.length < 40 then l ++ [g] else l
noncomputable def sendS : FS := ⟨send_sh, send_fs, send_rsh, send_rfs, fun d => d.1.2.length ≤ 100000, fun d => (false, sendF d.1.2 d.2), none⟩
theorem sendO : ∀ d : Tu sendS.fs, sendS.pre d → CallOk Try.prog 8 (sendS.args d) [] (sendS.ret d) := by
  rintro ⟨⟨x, l⟩, g⟩ h
  have h' : l.length ≤ 100000 := h
  by_cases h0 : l = []
  · subst h0
    exact CallOk.unit (fnOk C3_ok 21) rfl fLoops_none (o := false) (by show 0 ≤ 1000; decide) (send0_w x g)
  have h1 : 1 ≤ l.length := List.length_pos_iff.2 h0
  refine CallOk.unit (fnOk C2_ok 21) rfl fLoops_none (o := false) (by show 0 ≤ 1000; decide) ((send_w x l g.1 g.2.1 g.2.2).trans ?_)
  show _ = some ({ pan := false, res := .slc false ((sendF l g).map (mkV true Gram_tfs)), out := [], new := [] } : Ret)
  unfold send_r
  refine oK_pkq (Q := fun z => z = _) cl_inj (x, l) ⟨h1, h'⟩ ?_
  dsimp only
  rw [bK_pos (by simp)]
  unfold sendF
  refine bK_i (fun c => ?_) (fun c => ?_)
  · rw [if_neg (by rw [List.length_map] at c; omega), bK_pos (by simp), List.drop_zero, List.take_length]
  · rw [if_pos (by rw [List.length_map] at c; omega), bK_pos (by simp), bK_pos (by simp only [true_and, decide_true, Bool.true_and, List.length_map]; exact clfit (by omega)), bK_pos (by simp), app_end _ _ _ (Nat.le_refl _), List.take_length]
    exact app1 false l g
noncomputable def sendRS : FS := ⟨sendR_sh, sendR_fs, sendR_rsh, sendR_rfs, fun d => d.1.2.length ≤ 100000, fun d => (false, sendF d.1.2 d.2), none⟩
theorem all3 (l : List Gram_T) : ((l.map (mkV true Gram_tfs)).all fun y => decide (y.cells.length = 3)) = true := by
  simp [AV.cells, mkV, mkA, Tu.mk]
theorem sendRO : ∀ d : Tu sendRS.fs, sendRS.pre d → CallOk Try.prog 9 (sendRS.args d) [] (sendRS.ret d) := by
  rintro ⟨⟨x, l⟩, g⟩ h
  have h' : l.length ≤ 100000 := h
  refine CallOk.unit (fnOk PKz_ok 21) rfl fLoops_none (o := false) (by show 0 ≤ 1000; decide) ((sendR_w x l g.1 g.2.1 g.2.2).trans ?_)
  show _ = some ({ pan := false, res := .slc false ((sendF l g).map (mkV true Gram_tfs)), out := [], new := [] } : Ret)
  unfold sendR_r
  rw [bK_pos (all3 l)]
  cases l with
  | nil => rfl
  | cons a r =>
    generalize hL : a :: r = L at h'
    have hne : (L.map (mkV true Gram_tfs)).isEmpty = false := by rw [← hL]; rfl
    rw [bK_neg hne, bK_pos (by rw [Bool.true_and]; exact clfit (by simp; omega))]
    simp only [List.nil_append, Nat.zero_add]
    unfold sendF
    refine bK_i (fun c => ?_) (fun c => ?_)
    · rw [if_pos (by rw [List.length_map] at c; omega), bK_pos (by simp), bK_pos (by simp only [true_and, decide_true, Bool.true_and, List.length_map]; exact clfit (by omega)), bK_pos (by simp), app_end _ _ _ (Nat.le_refl _), List.take_length]
      exact app1 false L g
    · rw [if_neg (by rw [List.length_map] at c; omega), bK_pos (by simp), List.drop_zero, List.take_length]
def zG : Gram_T := (0, [], false)
/-- One comes. -/
def comesF (l : List Gram_T) (i : Int) : List Gram_T × Gram_T × Bool := if 0 ≤ i ∧ i < (l.length : Int) then (l.eraseIdx i.toNat, l.getD i.toNat zG, true) else (l, zG, false)
abbrev cOut (x : Bool) (y : List Gram_T × Gram_T × Bool) : Tu comes_rfs := ((x, y.1), y.2.1.1, y.2.1.2.1, y.2.1.2.2, y.2.2)
noncomputable def comesS : FS := ⟨comes_sh, comes_fs, comes_rsh, comes_rfs, fun d => d.1.2.length ≤ 100000, fun d => cOut d.1.2.isEmpty (comesF d.1.2 d.2), none⟩
theorem comesO : ∀ d : Tu comesS.fs, comesS.pre d → CallOk Try.prog 10 (comesS.args d) [] (comesS.ret d) := by
  rintro ⟨⟨x, l⟩, i⟩ h
  have h' : l.length ≤ 100000 := h
  by_cases h0 : l = []
  · subst h0
    refine CallOk.unit (fnOk C3_ok 21) rfl fLoops_none (o := false) (by show 0 ≤ 1000; decide) ((comes0_w x i).trans ?_)
    have e : comesF [] i = ([], zG, false) := by unfold comesF; rw [if_neg (by rintro ⟨h1, h2⟩; simp at h2; omega)]
    show _ = some (comesS.out (cOut true (comesF [] i)))
    rw [e]
    unfold comes0_r
    refine bK_i (fun c => ?_) (fun c => rfl)
    rw [bK_pos (by simp; omega)]
    rfl
  have h1 : 1 ≤ l.length := List.length_pos_iff.2 h0
  refine CallOk.unit (fnOk C2_ok 21) rfl fLoops_none (o := false) (by show 0 ≤ 1000; decide) ((comes_w x l i).trans ?_)
  have he : l.isEmpty = false := by simpa using h0
  show _ = some (comesS.out (cOut l.isEmpty (comesF l i)))
  rw [he]
  have no : ¬ (0 ≤ i ∧ i < (l.length : Int)) → comesF l i = (l, zG, false) := fun hn => by unfold comesF; rw [if_neg hn]
  unfold comes_r
  refine oK_pkq (Q := fun z => z = _) cl_inj (x, l) ⟨h1, h'⟩ ?_
  dsimp only
  rw [bK_pos (by simp), List.drop_zero, List.take_length]
  refine bK_i (fun c => ?_) (fun c => ?_)
  · refine bK_n (fun c2 => ?_) (fun c2 => ?_)
    · rw [List.length_map] at c2
      rw [no (fun hh => c2 hh.2), bK_pos (by simp)]
      rfl
    · rw [List.length_map] at c2
      have hi : i.toNat < l.length := by omega
      rw [bK_pos (by simp; omega), Nat.zero_add]
      refine (oK_pos (ldRow_map (fs := Gram_tfs) rfl l zG hi)).trans ?_
      refine oK_pkq (Q := fun z => z = _) deA_inj (l, i) ⟨⟨c, c2⟩, h'⟩ ?_
      have e : comesF l i = (l.eraseIdx i.toNat, l.getD i.toNat zG, true) := by unfold comesF; rw [if_pos ⟨c, c2⟩]
      rw [e]
      have eD : delG l i = l.eraseIdx i.toNat := rfl
      rw [eD, bK_pos (by simp), List.drop_zero, ← List.map_take, List.take_left']
      · rfl
      · rfl
  · rw [no (fun hh => c hh.1), bK_pos (by simp)]
    rfl

end Go.Proofs.Ytacpbgkljdgmlaa
