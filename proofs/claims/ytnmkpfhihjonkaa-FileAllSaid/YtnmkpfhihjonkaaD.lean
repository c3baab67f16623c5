/- A part of the proof: contracts of functions. -/
import Derived.Test.YtnmkpfhihjonkaaC
import Derived.Test.YtnmkpfhihjonkaaAbCl

set_option linter.unusedVariables false
set_option linter.unusedSimpArgs false
set_option maxRecDepth 100000
namespace Go.Proofs.Ytnmkpfhihjonkaa
open Go Go.Ab
abbrev writesO_id : Nat := 9
abbrev writesO_sh : Shp := [none]
abbrev writesO_fs : List Lf := [.fi .i64]
abbrev writesO_bs : List Lf := [.fl false [.fi .u8], .fi .i64]
abbrev writesO_rsh : Shp := [none]
abbrev writesO_rfs : List Lf := [.fl true Write_tfs]
noncomputable def writesO_r (p_l_x : Bool) (p_l : List Int) (p_n : Int) (most : Int) : Option Ret :=
  oK (numS.dec [AV.ptr 1000000 0 0 0, AV.int IntKind.i64 (IntKind.i64.wrap (most + 1))] [{ v := 0, k := BK.box, fz := false, sz := 0, es := [AV.slc p_l_x (List.map (mkV false [Lf.fi IntKind.u8]) p_l), AV.int IntKind.i64 p_n] }]) fun (d0 : ((Bool × List Int) × Int) × Int) => oK (wsL.dec { fr := [(0, AV.ptr 1000000 0 0 0), (5, AV.slc true []), (6, AV.int IntKind.i64 (numF d0.fst d0.snd).snd)], bs := [(1000000, { v := 0, k := BK.box, fz := false, sz := 0, es := [AV.slc (numF d0.fst d0.snd).fst.fst.fst (List.map (mkV false [Lf.fi IntKind.u8]) (numF d0.fst d0.snd).fst.fst.snd), AV.int IntKind.i64 (numF d0.fst d0.snd).fst.snd] })], df := [] }) fun (d1 : ((Bool × List Int) × Int) × Int) => bK (decide (d1.snd ≤ 0)) (some { pan := false, res := AV.slc true [], out := [{ v := 0, k := BK.box, fz := false, sz := 0, es := [AV.slc d1.fst.fst.fst (List.map (mkV false [Lf.fi IntKind.u8]) d1.fst.fst.snd), AV.int IntKind.i64 d1.fst.snd] }], new := [] }) (some { pan := false, res := AV.sref 2000000 0 0 (writesN d1.snd.toNat d1.fst []).snd.length, out := [{ v := 0, k := BK.box, fz := false, sz := 0, es := [AV.slc (writesN d1.snd.toNat d1.fst []).fst.fst.fst (List.map (mkV false [Lf.fi IntKind.u8]) (writesN d1.snd.toNat d1.fst []).fst.fst.snd), AV.int IntKind.i64 (writesN d1.snd.toNat d1.fst []).fst.snd] }], new := [{ v := 0, k := BK.row, fz := false, sz := 2, es := List.map (mkV true Write_tfs) (writesN d1.snd.toNat d1.fst []).snd }] })
theorem writesO_w (p_l_x : Bool) (p_l : List Int) (p_n : Int) (most : Int) : unitQ Try.prog cfg PK2 LP1 true 9 (.ptr outBase 0 0 0 :: groupA writesO_sh (Tu.mk writesO_fs most)) [boxB (Tu.mk writesO_bs ((p_l_x, p_l), p_n))] = writesO_r p_l_x p_l p_n most := by kernel_rfl

def writesOS : MS := ⟨writesO_bs, writesO_sh, writesO_fs, writesO_rsh, writesO_rfs, fun b most => pkOk b ∧ 0 ≤ (most : Int) ∧ (most : Int) ≤ 100, writesF, some (0, 2)⟩
theorem writesO_v (p_l_x : Bool) (p_l : List Int) (p_n : Int) (most : Int) (h : writesOS.pre ((p_l_x, p_l), p_n) most) : writesO_r p_l_x p_l p_n most = some (writesOS.ret ((p_l_x, p_l), p_n) most) := by
  obtain ⟨h, hm0, hm1⟩ := h
  have hm0 : 0 ≤ most := hm0
  have hm1 : most ≤ 100 := hm1
  have hw : IntKind.i64.wrap (most + 1) = most + 1 := w64 (by omega) (by omega)
  unfold writesO_r
  rw [hw]
  refine oK_ms numS ((p_l_x, p_l), p_n) (most + 1 : Int) h ?_
  have h1 := numF_ok (m := most + 1) h
  have h2 := numF_lt (m := most + 1) h (by omega)
  refine oK_lp wsHd0_inj (numF ((p_l_x, p_l), p_n) (most + 1)) ⟨h1, by omega⟩ ?_
  show _ = some (ownAlt (some (0, 2)) writesO_rsh (Tu.mk writesO_rfs (writesF ((p_l_x, p_l), p_n) most).2) [boxB (Tu.mk writesO_bs (writesF ((p_l_x, p_l), p_n) most).1)]).val
  unfold writesF
  simp only
  generalize numF ((p_l_x, p_l), p_n) (most + 1) = z at h1 h2 ⊢
  refine bK_i (fun c => ?_) (fun c => ?_)
  · have : z.2.toNat = 0 := by omega
    simp only [this, c, decide_true]
    rfl
  · have hl := writesN_len z.2.toNat z.1 []
    generalize writesN z.2.toNat z.1 [] = y at hl ⊢
    obtain ⟨b, l⟩ := y
    match l, hl with
    | [], hl => simp at hl; omega
    | w :: l, hl =>
      refine Eq.trans ?_ (congrArg some (own_one (f := mkV true Write_tfs) (sz := 2) (x := decide (z.2 ≤ 0)) (l := w :: l) (out := [boxB (Tu.mk writesO_bs b)])).symm)
      rfl
theorem writesO_ok : ∀ (b : Tu writesO_bs) (d : Tu writesO_fs), writesOS.pre b d → unitQ Try.prog cfg PK2 LP1 true 9 (writesOS.args d) (writesOS.out0 b) = some (writesOS.ret b d)
  | ((p_l_x, p_l), p_n), most, h => (writesO_w p_l_x p_l p_n most).trans (writesO_v p_l_x p_l p_n most h)
noncomputable def PKo3 : PKs := PK2.add 9 writesOS.pk
theorem PKo3_ok : PKsOk Try.prog PKo3 := PKsOk.ms (cfg := cfg) PK2_ok (fnOk PK2_ok 21) 9 rfl LP1 LP1_ok.loops writesOS writesO_ok

noncomputable def PKo4 : PKs := PKo3.add 11 mayWS.pk
theorem PKo4_ok : PKsOk Try.prog PKo4 := PKsOk.take PKo3_ok PK4_ok rfl
noncomputable def PKo5 : PKs := PKo4.add 13 putWS.pk
theorem PKo5_ok : PKsOk Try.prog PKo5 := PKsOk.take PKo4_ok PK5_ok rfl
noncomputable def PKo6 : PKs := PKo5.add 15 allWS.pk
theorem PKo6_ok : PKsOk Try.prog PKo6 := PKsOk.take PKo5_ok PK6_ok rfl
noncomputable def PKo7 : PKs := PKo6.add 12 mayRS.pk
theorem PKo7_ok : PKsOk Try.prog PKo7 := PKsOk.take PKo6_ok PK7_ok rfl
noncomputable def PKo8 : PKs := PKo7.add 14 putRS.pk
theorem PKo8_ok : PKsOk Try.prog PKo8 := PKsOk.take PKo7_ok PK8_ok rfl
noncomputable def PKo9 : PKs := PKo8.add 16 allRS.pk
theorem PKo9_ok : PKsOk Try.prog PKo9 := PKsOk.take PKo8_ok PK9_ok rfl
def deadW : Blk := { v := 0, k := .dead, fz := false, sz := 2, es := [] }
def rowW (l : List Write_T) : Blk := { v := 0, k := .row, fz := false, sz := 2, es := l.map (mkV true Write_tfs) }
def rowsW (q : Bool) (l : List Write_T) : List (Nat × Blk) := match q with
  | false => [(544, rowW l)]
  | true => [(464, deadW), (544, rowW l)]
def faHd (q : Bool) (body : List UInt8) (l : List Write_T) (i : Int) : St := { fr := [(0, .str body), (8, .sref 544 0 0 l.length), (9, .int .i64 i)], bs := rowsW q l, df := [] }
noncomputable def fa_0 (body : List UInt8) (l : List Write_T) (i : Int) : Option (St ⊕ (Ex × St)) := stepK Try.prog cfg PKo9 LP0 3 0 (faHd false body l i)
noncomputable def fa_1 (body : List UInt8) (l : List Write_T) (i : Int) : Option (St ⊕ (Ex × St)) := stepK Try.prog cfg PKo9 LP0 3 0 (faHd true body l i)
noncomputable def fa_0_r (body : List UInt8) (l : List Write_T) (i : Int) : Option (St ⊕ Ex × St) :=
  bK (decide (0 + l.length ≤ (List.map (mkV true Write_tfs) l).length))
  (bK (decide (i < (↑l.length : Int)))
    (bK (decide (0 ≤ i ∧ i < (↑l.length : Int)))
      (oK (ldRow Write_tfs (List.map (mkV true Write_tfs) l) (0 + i.toNat) 0) fun (d0 : Int × List UInt8) =>
        oK (mayWS.dec [AV.agg [AV.int IntKind.i64 d0.fst, AV.str d0.snd]] []) fun (d1 : Int × List UInt8) =>
          bK (decide (0 ≤ i ∧ i < (↑l.length : Int)))
            (oK (ldRow Write_tfs (List.map (mkV true Write_tfs) l) (0 + i.toNat) 0) fun (d2 : Int × List UInt8) =>
              oK (mayRS.dec [AV.agg [AV.int IntKind.i64 d2.fst, AV.str d2.snd]] []) fun (d3 : Int × List UInt8) => bK (!decide (mayB d1) == decide (mayB d3)) (some (Sum.inr (Ex.ret, { fr := [(0, AV.str body), (6, AV.bool false), (8, AV.sref 544 0 0 l.length)], bs := [(544, { v := 0, k := BK.row, fz := false, sz := 2, es := List.map (mkV true Write_tfs) l })], df := [] }))) (bK (decide (0 ≤ i ∧ i < (↑l.length : Int))) (oK (ldRow Write_tfs (List.map (mkV true Write_tfs) l) (0 + i.toNat) 0) fun (d4 : Int × List UInt8) => oK (putWS.dec [AV.str body, AV.agg [AV.int IntKind.i64 d4.fst, AV.str d4.snd]] []) fun (d5 : List UInt8 × Int × List UInt8) => bK (decide (0 ≤ i ∧ i < (↑l.length : Int))) (oK (ldRow Write_tfs (List.map (mkV true Write_tfs) l) (0 + i.toNat) 0) fun (d6 : Int × List UInt8) => oK (putRS.dec [AV.str body, AV.agg [AV.int IntKind.i64 d6.fst, AV.str d6.snd]] []) fun (d7 : List UInt8 × Int × List UInt8) => bK (!decide (putB d5.fst d5.snd = putB d7.fst d7.snd)) (some (Sum.inr (Ex.ret, { fr := [(0, AV.str body), (6, AV.bool false), (8, AV.sref 544 0 0 l.length)], bs := [(544, { v := 0, k := BK.row, fz := false, sz := 2, es := List.map (mkV true Write_tfs) l })], df := [] }))) (some (Sum.inl { fr := [(0, AV.str body), (8, AV.sref 544 0 0 l.length), (9, AV.int IntKind.i64 (IntKind.i64.wrap (i + 1)))], bs := [(544, { v := 0, k := BK.row, fz := false, sz := 2, es := List.map (mkV true Write_tfs) l })], df := [] }))) none) none))
            none)
      none)
    (some (Sum.inr (Ex.exit 0, { fr := [(0, AV.str body), (8, AV.sref 544 0 0 l.length)], bs := [(544, { v := 0, k := BK.row, fz := false, sz := 2, es := List.map (mkV true Write_tfs) l })], df := [] }))))
  none
theorem fa_0_w (body : List UInt8) (l : List Write_T) (i : Int) : fa_0 body l i = fa_0_r body l i := by kernel_rfl

noncomputable def fa_1_r (body : List UInt8) (l : List Write_T) (i : Int) : Option (St ⊕ Ex × St) :=
  bK (decide (0 + l.length ≤ (List.map (mkV true Write_tfs) l).length))
  (bK (decide (i < (↑l.length : Int)))
    (bK (decide (0 ≤ i ∧ i < (↑l.length : Int)))
      (oK (ldRow Write_tfs (List.map (mkV true Write_tfs) l) (0 + i.toNat) 0) fun (d0 : Int × List UInt8) =>
        oK (mayWS.dec [AV.agg [AV.int IntKind.i64 d0.fst, AV.str d0.snd]] []) fun (d1 : Int × List UInt8) =>
          bK (decide (0 ≤ i ∧ i < (↑l.length : Int)))
            (oK (ldRow Write_tfs (List.map (mkV true Write_tfs) l) (0 + i.toNat) 0) fun (d2 : Int × List UInt8) =>
              oK (mayRS.dec [AV.agg [AV.int IntKind.i64 d2.fst, AV.str d2.snd]] []) fun (d3 : Int × List UInt8) =>
                bK (!decide (mayB d1) == decide (mayB d3)) (some (Sum.inr (Ex.ret, { fr := [(0, AV.str body), (6, AV.bool false), (8, AV.sref 544 0 0 l.length)], bs := [(464, { v := 0, k := BK.dead, fz := false, sz := 2, es := [] }), (544, { v := 0, k := BK.row, fz := false, sz := 2, es := List.map (mkV true Write_tfs) l })], df := [] })))
                  (bK (decide (0 ≤ i ∧ i < (↑l.length : Int))) (oK (ldRow Write_tfs (List.map (mkV true Write_tfs) l) (0 + i.toNat) 0) fun (d4 : Int × List UInt8) => oK (putWS.dec [AV.str body, AV.agg [AV.int IntKind.i64 d4.fst, AV.str d4.snd]] []) fun (d5 : List UInt8 × Int × List UInt8) => bK (decide (0 ≤ i ∧ i < (↑l.length : Int))) (oK (ldRow Write_tfs (List.map (mkV true Write_tfs) l) (0 + i.toNat) 0) fun (d6 : Int × List UInt8) => oK (putRS.dec [AV.str body, AV.agg [AV.int IntKind.i64 d6.fst, AV.str d6.snd]] []) fun (d7 : List UInt8 × Int × List UInt8) => bK (!decide (putB d5.fst d5.snd = putB d7.fst d7.snd)) (some (Sum.inr (Ex.ret, { fr := [(0, AV.str body), (6, AV.bool false), (8, AV.sref 544 0 0 l.length)], bs := [(464, { v := 0, k := BK.dead, fz := false, sz := 2, es := [] }), (544, { v := 0, k := BK.row, fz := false, sz := 2, es := List.map (mkV true Write_tfs) l })], df := [] }))) (some (Sum.inl { fr := [(0, AV.str body), (8, AV.sref 544 0 0 l.length), (9, AV.int IntKind.i64 (IntKind.i64.wrap (i + 1)))], bs := [(464, { v := 0, k := BK.dead, fz := false, sz := 2, es := [] }), (544, { v := 0, k := BK.row, fz := false, sz := 2, es := List.map (mkV true Write_tfs) l })], df := [] }))) none) none))
            none)
      none)
    (some (Sum.inr (Ex.exit 0, { fr := [(0, AV.str body), (8, AV.sref 544 0 0 l.length)], bs := [(464, { v := 0, k := BK.dead, fz := false, sz := 2, es := [] }), (544, { v := 0, k := BK.row, fz := false, sz := 2, es := List.map (mkV true Write_tfs) l })], df := [] }))))
  none
theorem fa_1_w (body : List UInt8) (l : List Write_T) (i : Int) : fa_1 body l i = fa_1_r body l i := by kernel_rfl

def faEnd (q : Bool) (body : List UInt8) (l : List Write_T) : St := { fr := [(0, .str body), (8, .sref 544 0 0 l.length)], bs := rowsW q l, df := [] }
theorem loops3 : (loopsOf 0 (codeOf Try.prog 3)).map (·.1) = [0] := by kernel_rfl
theorem one3 : OneLoops Try.prog 3 := by unfold OneLoops; rw [loops3]; decide
theorem at3 : At 0 (codeOf Try.prog 3) 0 (.loop (bodyAt Try.prog 3 0)) := at_body one3 (by rw [loops3]; decide)
theorem ldW (l : List Write_T) (i : Nat) (h : i < l.length) : ldRow Write_tfs (l.map (mkV true Write_tfs)) i 0 = some (l.getD i (0, [])) := by
  have e : (l.map (mkV true Write_tfs))[i]? = some (mkV true Write_tfs (l.getD i (0, []))) := by simp [h, List.getD]
  unfold ldRow
  rw [e]
  exact ldCells_mk (fs := Write_tfs) (agg := true) rfl (l.getD i (0, []))
theorem fa_run0 (body : List UInt8) (l : List Write_T) (hb : body.length ≤ 24) (hl : l.length ≤ 1000) : ∀ (k i : Nat), i + k = l.length → ∀ (m : Nat), k < m →
    Runs' Try.prog cfg PKo9 3 0 m (faHd false body l i) (.exit 0, faEnd false body l)
  | 0, i, hi, m + 1, hm => by
    refine Runs'.done (lp := LP0) LPok.none at3 ((fa_0_w body l i).trans ?_)
    unfold fa_0_r
    rw [bK_pos (by simp), bK_neg (by simp; omega)]
    rfl
  | k + 1, i, hi, m + 1, hm => by
    refine Runs'.step (lp := LP0) LPok.none at3 ((fa_0_w body l i).trans ?_) (fa_run0 body l hb hl k (i + 1) (by omega) m (by omega))
    have hi' : i < l.length := by omega
    have hb' : body.length ≤ 1000 := by omega
    have hd : ldRow Write_tfs (List.map (mkV true Write_tfs) l) (0 + (i : Int).toNat) 0 = some (l.getD i (0, [])) := by
      rw [Nat.zero_add, Int.toNat_natCast]; exact ldW l i hi'
    have hr : (0 : Int) ≤ (i : Int) ∧ (i : Int) < (l.length : Int) := by omega
    unfold fa_0_r
    rw [bK_pos (by simp), bK_pos (by exact decide_eq_true hr.2), bK_pos (by exact decide_eq_true hr)]
    refine (oK_pos hd).trans ?_
    generalize l.getD i (0, []) = y at hd ⊢
    refine oK_fsq (Q := fun z => z = _) mayWS y trivial ?_
    rw [bK_pos (by exact decide_eq_true hr)]
    refine (oK_pos hd).trans ?_
    refine oK_fsq (Q := fun z => z = _) mayRS y trivial ?_
    rw [bK_neg (by simp), bK_pos (by exact decide_eq_true hr)]
    refine (oK_pos hd).trans ?_
    refine oK_fsq (Q := fun z => z = _) putWS (body, y) hb' ?_
    rw [bK_pos (by exact decide_eq_true hr)]
    refine (oK_pos hd).trans ?_
    refine oK_fsq (Q := fun z => z = _) putRS (body, y) hb' ?_
    rw [bK_neg (by simp), w64 (by omega) (by omega)]
    rfl
theorem fa_run1 (body : List UInt8) (l : List Write_T) (hb : body.length ≤ 24) (hl : l.length ≤ 1000) : ∀ (k i : Nat), i + k = l.length → ∀ (m : Nat), k < m →
    Runs' Try.prog cfg PKo9 3 0 m (faHd true body l i) (.exit 0, faEnd true body l)
  | 0, i, hi, m + 1, hm => by
    refine Runs'.done (lp := LP0) LPok.none at3 ((fa_1_w body l i).trans ?_)
    unfold fa_1_r
    rw [bK_pos (by simp), bK_neg (by simp; omega)]
    rfl
  | k + 1, i, hi, m + 1, hm => by
    refine Runs'.step (lp := LP0) LPok.none at3 ((fa_1_w body l i).trans ?_) (fa_run1 body l hb hl k (i + 1) (by omega) m (by omega))
    have hi' : i < l.length := by omega
    have hb' : body.length ≤ 1000 := by omega
    have hd : ldRow Write_tfs (List.map (mkV true Write_tfs) l) (0 + (i : Int).toNat) 0 = some (l.getD i (0, [])) := by
      rw [Nat.zero_add, Int.toNat_natCast]; exact ldW l i hi'
    have hr : (0 : Int) ≤ (i : Int) ∧ (i : Int) < (l.length : Int) := by omega
    unfold fa_1_r
    rw [bK_pos (by simp), bK_pos (by exact decide_eq_true hr.2), bK_pos (by exact decide_eq_true hr)]
    refine (oK_pos hd).trans ?_
    generalize l.getD i (0, []) = y at hd ⊢
    refine oK_fsq (Q := fun z => z = _) mayWS y trivial ?_
    rw [bK_pos (by exact decide_eq_true hr)]
    refine (oK_pos hd).trans ?_
    refine oK_fsq (Q := fun z => z = _) mayRS y trivial ?_
    rw [bK_neg (by simp), bK_pos (by exact decide_eq_true hr)]
    refine (oK_pos hd).trans ?_
    refine oK_fsq (Q := fun z => z = _) putWS (body, y) hb' ?_
    rw [bK_pos (by exact decide_eq_true hr)]
    refine (oK_pos hd).trans ?_
    refine oK_fsq (Q := fun z => z = _) putRS (body, y) hb' ?_
    rw [bK_neg (by simp), w64 (by omega) (by omega)]
    rfl
abbrev FaD : Type := Bool × List UInt8 × List Write_T
def faH (d : FaD) : St := faHd d.1 d.2.1 d.2.2 0
noncomputable def faL : LP := LP.of (D := FaD) faH (fun d => d.2.1.length ≤ 24 ∧ d.2.2.length ≤ 1000) fun d => .ite d.1 (.leaf (.exit 0, faEnd true d.2.1 d.2.2)) (.leaf (.exit 0, faEnd false d.2.1 d.2.2))
noncomputable def LPfa : LPs := LPs.add LP0 3 0 faL
theorem LPfa_ok : LPok Try.prog cfg PKo9 LPfa 3 := LPok.addH LPok.none one3 (by
  rintro ⟨q, body, l⟩ ⟨h1, h2⟩
  have h2' : l.length ≤ 1000 := h2
  cases q with
  | false => exact fa_run0 body l h1 h2 l.length 0 (by omega) rounds (by simp only [rounds]; omega)
  | true => exact fa_run1 body l h1 h2 l.length 0 (by omega) rounds (by simp only [rounds]; omega))
theorem faH_inj (d d' : FaD) (h : faH d = faH d') : d = d' := by
  obtain ⟨q, b, l⟩ := d
  obtain ⟨q', b', l'⟩ := d'
  cases q <;> cases q' <;> simp only [faH, faHd, rowsW, rowW, deadW, St.mk.injEq, List.cons.injEq, Prod.mk.injEq, AV.str.injEq, AV.sref.injEq, Blk.mk.injEq, and_true, true_and] at h
  · obtain ⟨⟨h1, _⟩, h2⟩ := h
    rw [h1, map_inj (fs := Write_tfs) rfl h2]
  · simp at h
  · simp at h
  · obtain ⟨⟨h1, _⟩, h2⟩ := h
    rw [h1, map_inj (fs := Write_tfs) rfl h2]
abbrev fileAll_id : Nat := 3
abbrev fileAll_sh : Shp := [none, none, some 2]
abbrev fileAll_fs : List Lf := [.fs, .fl false [.fi .u8], .fi .i64, .fs]
abbrev fileAll_rsh : Shp := [none]
abbrev fileAll_rfs : List Lf := [.fb]
noncomputable def fileAll_r (body : List UInt8) (picks_x : Bool) (picks : List Int) (wild_Off : Int) (wild_B : List UInt8) : Option Ret :=
  oK (begunS.dec [] []) fun (d0 : PUnit) =>
  bK (decide (24 < (↑body.length : Int))) (some { pan := false, res := AV.bool true, out := [], new := [] })
    (bK (decide (20 < (↑(List.map (mkV false [Lf.fi IntKind.u8]) picks).length : Int))) (some { pan := false, res := AV.bool true, out := [], new := [] })
      (bK (decide (40 < (↑wild_B.length : Int))) (some { pan := false, res := AV.bool true, out := [], new := [] })
        (oK (writesOS.dec [AV.ptr 1000000 0 0 0, AV.int IntKind.i64 8] [{ v := 0, k := BK.box, fz := false, sz := 0, es := [AV.slc picks_x (List.map (mkV false [Lf.fi IntKind.u8]) picks), AV.int IntKind.i64 0] }]) fun (d1 : ((Bool × List Int) × Int) × Int) =>
          bK (List.map (mkV true Write_tfs) (writesF d1.fst d1.snd).snd.snd).isEmpty
            (oK (writeS.dec [AV.ptr 1000000 0 0 0] [{ v := 0, k := BK.box, fz := false, sz := 0, es := [AV.slc (writesF d1.fst d1.snd).fst.fst.fst (List.map (mkV false [Lf.fi IntKind.u8]) (writesF d1.fst d1.snd).fst.fst.snd), AV.int IntKind.i64 (writesF d1.fst d1.snd).fst.snd] }]) fun (d2 : ((Bool × List Int) × Int) × PUnit) =>
              oK (faL.dec { fr := [(0, AV.str body), (8, AV.sref 544 0 0 2), (9, AV.int IntKind.i64 0)], bs := [(544, { v := 0, k := BK.row, fz := false, sz := 2, es := [AV.agg [AV.int IntKind.i64 wild_Off, AV.str wild_B], AV.agg [AV.int IntKind.i64 (writeF d2.fst).snd.fst, AV.str (writeF d2.fst).snd.snd]] })], df := [] }) fun (d3 : Bool × List UInt8 × List (Int × List UInt8)) =>
                bK d3.fst (bK (decide (0 + d3.snd.snd.length ≤ (List.map (mkV true Write_tfs) d3.snd.snd).length)) (oK (allWS.dec [AV.str d3.snd.fst, AV.slc false (List.take d3.snd.snd.length (List.drop 0 (List.map (mkV true Write_tfs) d3.snd.snd)))] []) fun (d4 : List UInt8 × Bool × List (Int × List UInt8)) => bK (decide (0 + d3.snd.snd.length ≤ (List.map (mkV true Write_tfs) d3.snd.snd).length)) (oK (allRS.dec [AV.str d3.snd.fst, AV.slc false (List.take d3.snd.snd.length (List.drop 0 (List.map (mkV true Write_tfs) d3.snd.snd)))] []) fun (d5 : List UInt8 × Bool × List (Int × List UInt8)) => some { pan := false, res := AV.bool (decide (allF d4.fst d4.snd.snd = allF d5.fst d5.snd.snd)), out := [], new := [] }) none) none) (bK (decide (0 + d3.snd.snd.length ≤ (List.map (mkV true Write_tfs) d3.snd.snd).length)) (oK (allWS.dec [AV.str d3.snd.fst, AV.slc false (List.take d3.snd.snd.length (List.drop 0 (List.map (mkV true Write_tfs) d3.snd.snd)))] []) fun (d6 : List UInt8 × Bool × List (Int × List UInt8)) => bK (decide (0 + d3.snd.snd.length ≤ (List.map (mkV true Write_tfs) d3.snd.snd).length)) (oK (allRS.dec [AV.str d3.snd.fst, AV.slc false (List.take d3.snd.snd.length (List.drop 0 (List.map (mkV true Write_tfs) d3.snd.snd)))] []) fun (d7 : List UInt8 × Bool × List (Int × List UInt8)) => some { pan := false, res := AV.bool (decide (allF d6.fst d6.snd.snd = allF d7.fst d7.snd.snd)), out := [], new := [] }) none) none))
            (oK (writeS.dec [AV.ptr 1000000 0 0 0] [{ v := 0, k := BK.box, fz := false, sz := 0, es := [AV.slc (writesF d1.fst d1.snd).fst.fst.fst (List.map (mkV false [Lf.fi IntKind.u8]) (writesF d1.fst d1.snd).fst.fst.snd), AV.int IntKind.i64 (writesF d1.fst d1.snd).fst.snd] }]) fun (d8 : ((Bool × List Int) × Int) × PUnit) =>
              bK (decide (0 + (List.map (mkV true Write_tfs) (writesF d1.fst d1.snd).snd.snd).length ≤ (List.map (mkV true Write_tfs) (writesF d1.fst d1.snd).snd.snd).length))
                (bK (decide (0 = 0 ∧ (List.map (mkV true Write_tfs) (writesF d1.fst d1.snd).snd.snd).length = (List.map (mkV true Write_tfs) (writesF d1.fst d1.snd).snd.snd).length) && bytesFit Try.prog 24 ((List.map (mkV true Write_tfs) (writesF d1.fst d1.snd).snd.snd).length + 2))
                  (oK (faL.dec { fr := [(0, AV.str body), (8, AV.sref 544 0 0 ((List.map (mkV true Write_tfs) (writesF d1.fst d1.snd).snd.snd).length + 2)), (9, AV.int IntKind.i64 0)], bs := [(464, { v := 0, k := BK.dead, fz := false, sz := 2, es := [] }), (544, { v := 0, k := BK.row, fz := false, sz := 2, es := List.take (List.map (mkV true Write_tfs) (writesF d1.fst d1.snd).snd.snd).length (List.map (mkV true Write_tfs) (writesF d1.fst d1.snd).snd.snd) ++ [AV.agg [AV.int IntKind.i64 wild_Off, AV.str wild_B], AV.agg [AV.int IntKind.i64 (writeF d8.fst).snd.fst, AV.str (writeF d8.fst).snd.snd]] })], df := [] }) fun (d9 : Bool × List UInt8 × List (Int × List UInt8)) =>
                    bK d9.fst (bK (decide (0 + d9.snd.snd.length ≤ (List.map (mkV true Write_tfs) d9.snd.snd).length)) (oK (allWS.dec [AV.str d9.snd.fst, AV.slc false (List.take d9.snd.snd.length (List.drop 0 (List.map (mkV true Write_tfs) d9.snd.snd)))] []) fun (d10 : List UInt8 × Bool × List (Int × List UInt8)) => bK (decide (0 + d9.snd.snd.length ≤ (List.map (mkV true Write_tfs) d9.snd.snd).length)) (oK (allRS.dec [AV.str d9.snd.fst, AV.slc false (List.take d9.snd.snd.length (List.drop 0 (List.map (mkV true Write_tfs) d9.snd.snd)))] []) fun (d11 : List UInt8 × Bool × List (Int × List UInt8)) => some { pan := false, res := AV.bool (decide (allF d10.fst d10.snd.snd = allF d11.fst d11.snd.snd)), out := [], new := [] }) none) none) (bK (decide (0 + d9.snd.snd.length ≤ (List.map (mkV true Write_tfs) d9.snd.snd).length)) (oK (allWS.dec [AV.str d9.snd.fst, AV.slc false (List.take d9.snd.snd.length (List.drop 0 (List.map (mkV true Write_tfs) d9.snd.snd)))] []) fun (d12 : List UInt8 × Bool × List (Int × List UInt8)) => bK (decide (0 + d9.snd.snd.length ≤ (List.map (mkV true Write_tfs) d9.snd.snd).length)) (oK (allRS.dec [AV.str d9.snd.fst, AV.slc false (List.take d9.snd.snd.length (List.drop 0 (List.map (mkV true Write_tfs) d9.snd.snd)))] []) fun (d13 : List UInt8 × Bool × List (Int × List UInt8)) => some { pan := false, res := AV.bool (decide (allF d12.fst d12.snd.snd = allF d13.fst d13.snd.snd)), out := [], new := [] }) none) none))
                  none)
                none))))
theorem fileAll_w (body : List UInt8) (picks_x : Bool) (picks : List Int) (wild_Off : Int) (wild_B : List UInt8) : unitQ Try.prog cfg PKo9 LPfa true 3 (groupA fileAll_sh (Tu.mk fileAll_fs (body, (picks_x, picks), wild_Off, wild_B))) [] = fileAll_r body picks_x picks wild_Off wild_B := by kernel_rfl

theorem fa_tail (q : Bool) (body : List UInt8) (l : List Write_T) (hb : body.length ≤ 24) (hl : l.length ≤ 1000) :
    Yes (bK q (bK (decide (0 + l.length ≤ (List.map (mkV true Write_tfs) l).length)) (oK (allWS.dec [AV.str body, AV.slc false (List.take l.length (List.drop 0 (List.map (mkV true Write_tfs) l)))] []) fun (d4 : List UInt8 × Bool × List (Int × List UInt8)) => bK (decide (0 + l.length ≤ (List.map (mkV true Write_tfs) l).length)) (oK (allRS.dec [AV.str body, AV.slc false (List.take l.length (List.drop 0 (List.map (mkV true Write_tfs) l)))] []) fun (d5 : List UInt8 × Bool × List (Int × List UInt8)) => some { pan := false, res := AV.bool (decide (allF d4.1 d4.2.2 = allF d5.1 d5.2.2)), out := [], new := [] }) none) none) (bK (decide (0 + l.length ≤ (List.map (mkV true Write_tfs) l).length)) (oK (allWS.dec [AV.str body, AV.slc false (List.take l.length (List.drop 0 (List.map (mkV true Write_tfs) l)))] []) fun (d6 : List UInt8 × Bool × List (Int × List UInt8)) => bK (decide (0 + l.length ≤ (List.map (mkV true Write_tfs) l).length)) (oK (allRS.dec [AV.str body, AV.slc false (List.take l.length (List.drop 0 (List.map (mkV true Write_tfs) l)))] []) fun (d7 : List UInt8 × Bool × List (Int × List UInt8)) => some { pan := false, res := AV.bool (decide (allF d6.1 d6.2.2 = allF d7.1 d7.2.2)), out := [], new := [] }) none) none)) := by
  have e : List.take l.length (List.drop 0 (List.map (mkV true Write_tfs) l)) = List.map (mkV true Write_tfs) l := by rw [List.drop_zero, List.take_of_length_le (by simp)]
  rw [e]
  refine bK_bq (fun _ => ?_) (fun _ => ?_)
  · refine bK_tq (by simp) ?_
    refine oK_fsq allWS (body, (false, l)) ⟨hb, hl⟩ ?_
    refine bK_tq (by simp) ?_
    refine oK_fsq allRS (body, (false, l)) ⟨hb, hl⟩ ?_
    exact yes_of (decide_eq_true rfl)
  · refine bK_tq (by simp) ?_
    refine oK_fsq allWS (body, (false, l)) ⟨hb, hl⟩ ?_
    refine bK_tq (by simp) ?_
    refine oK_fsq allRS (body, (false, l)) ⟨hb, hl⟩ ?_
    exact yes_of (decide_eq_true rfl)
theorem fileAll_yes (body : List UInt8) (picks_x : Bool) (picks : List Int) (wild_Off : Int) (wild_B : List UInt8) (h : Tu.wf fileAll_fs (body, (picks_x, picks), wild_Off, wild_B)) : Yes (fileAll_r body picks_x picks wild_Off wild_B) := by
  obtain ⟨_, hp, _⟩ := h
  have hp' := wf8 hp.2
  unfold fileAll_r
  refine oK_fsq begunS () trivial ?_
  refine bK_iq (fun _ => yes_leaf) (fun c1 => ?_)
  refine bK_iq (fun _ => yes_leaf) (fun c2 => ?_)
  refine bK_iq (fun _ => yes_leaf) (fun c3 => ?_)
  have hb : body.length ≤ 24 := by omega
  have hn : picks.length ≤ 20 := by simp only [List.length_map] at c2; omega
  have hk : pkOk ((picks_x, picks), 0) := ⟨Int.le_refl _, by show (0 : Int) ≤ 2 ^ 62; decide, by show picks.length ≤ 2 ^ 62; omega, hp'⟩
  refine oK_msq writesOS ((picks_x, picks), 0) (8 : Int) ⟨hk, by decide, by decide⟩ ?_
  have hl := writesF_len (most := 8) hk (by decide)
  have hz := writesF_ok (most := 8) hk
  generalize writesF ((picks_x, picks), 0) 8 = z at hl hz ⊢
  obtain ⟨zb, zx, l⟩ := z
  simp only at hl hz
  refine bK_bq (fun c4 => ?_) (fun c4 => ?_)
  · refine oK_msq writeS zb () hz ?_
    generalize writeF zb = y
    obtain ⟨yb, y⟩ := y
    refine oK_lpq faH_inj (false, body, [(wild_Off, wild_B), y]) ⟨hb, by show (2 : Nat) ≤ 1000; decide⟩ ?_
    exact fa_tail false body [(wild_Off, wild_B), y] hb (by show (2 : Nat) ≤ 1000; decide)
  · refine oK_msq writeS zb () hz ?_
    generalize writeF zb = y
    obtain ⟨yb, y⟩ := y
    have hl' : (l ++ [(wild_Off, wild_B), y]).length ≤ 1000 := by simp; omega
    refine bK_tq (by simp) (bK_tq (by simp [fit24 (show l.length + 2 ≤ 1000000 by omega)]) ?_)
    have e1 : List.take (List.map (mkV true Write_tfs) l).length (List.map (mkV true Write_tfs) l) ++ [AV.agg [AV.int IntKind.i64 wild_Off, AV.str wild_B], AV.agg [AV.int IntKind.i64 y.1, AV.str y.2]] = (l ++ [(wild_Off, wild_B), y]).map (mkV true Write_tfs) := by
      rw [List.take_length, List.map_append]; rfl
    have e2 : (List.map (mkV true Write_tfs) l).length + 2 = (l ++ [(wild_Off, wild_B), y]).length := by simp
    dsimp only
    rw [e1, e2]
    refine oK_lpq faH_inj (true, body, l ++ [(wild_Off, wild_B), y]) ⟨hb, hl'⟩ ?_
    exact fa_tail true body (l ++ [(wild_Off, wild_B), y]) hb hl'

end Go.Proofs.Ytnmkpfhihjonkaa
