/- A part of the proof: contracts of functions. -/
import Derived.Test.YtnmkpfhihjonkaaP
import Derived.Test.YtnmkpfhihjonkaaAbCl

set_option linter.unusedVariables false
set_option linter.unusedSimpArgs false
set_option maxRecDepth 100000
namespace Go.Proofs.Ytnmkpfhihjonkaa
open Go Go.Ab
def alHd (x : Bool) (l : List Write_T) (b : List UInt8) (i : Int) : St := { fr := [(0, .str b), (7, .slc x (l.map (mkV true Write_tfs))), (8, .int .i64 ((l.map (mkV true Write_tfs)).length : Int)), (9, .int .i64 i)], bs := [], df := [] }
noncomputable def al_s (x : Bool) (l : List Write_T) (b : List UInt8) (i : Int) : Option (St ⊕ (Ex × St)) := stepK Try.prog cfg PK5 LP0 15 0 (alHd x l b i)
noncomputable def al_s_r (x : Bool) (l : List Write_T) (b : List UInt8) (i : Int) : Option (St ⊕ Ex × St) :=
  bK (decide (i < (↑(List.map (mkV true Write_tfs) l).length : Int))) (oK (elemAt true Write_tfs (List.map (mkV true Write_tfs) l) i) fun (d0 : Int × List UInt8) => oK (putWS.dec [AV.str b, AV.agg [AV.int IntKind.i64 d0.fst, AV.str d0.snd]] []) fun (d1 : List UInt8 × Int × List UInt8) => some (Sum.inl { fr := [(0, AV.str (putB d1.fst d1.snd)), (7, AV.slc x (List.map (mkV true Write_tfs) l)), (8, AV.int IntKind.i64 (↑(List.map (mkV true Write_tfs) l).length : Int)), (9, AV.int IntKind.i64 (IntKind.i64.wrap (i + 1)))], bs := [], df := [] })) (some (Sum.inr (Ex.exit 0, { fr := [(0, AV.str b)], bs := [], df := [] })))
theorem al_s_w (x : Bool) (l : List Write_T) (b : List UInt8) (i : Int) : al_s x l b i = al_s_r x l b i := by kernel_rfl

def alEnd (b : List UInt8) : St := { fr := [(0, .str b)], bs := [], df := [] }
theorem loops15 : (loopsOf 0 (codeOf Try.prog 15)).map (·.1) = [0] := by kernel_rfl
theorem one15 : OneLoops Try.prog 15 := by unfold OneLoops; rw [loops15]; decide
theorem at15 : At 0 (codeOf Try.prog 15) 0 (.loop (bodyAt Try.prog 15 0)) := at_body one15 (by rw [loops15]; decide)
theorem al_run (x : Bool) (l : List Write_T) (hl : l.length ≤ 1000) : ∀ (k i : Nat), i + k = l.length → ∀ (b : List UInt8), b.length ≤ 24 → ∀ (m : Nat), k < m →
    Runs' Try.prog cfg PK5 15 0 m (alHd x l b i) (.exit 0, alEnd (allB b (l.drop i)))
  | 0, i, hi, b, hb, m + 1, hm => by
    refine Runs'.done (lp := LP0) LPok.none at15 ((al_s_w x l b i).trans ?_)
    unfold al_s_r
    rw [bK_neg (by simp; omega), List.drop_of_length_le (by omega)]
    rfl
  | k + 1, i, hi, b, hb, m + 1, hm => by
    have hi' : (i : Int).toNat < l.length := by omega
    have e : l.drop i = l[i] :: l.drop (i + 1) := List.drop_eq_getElem_cons (by omega)
    rw [e]
    refine Runs'.step (lp := LP0) LPok.none at15 ((al_s_w x l b i).trans ?_) (al_run x l hl k (i + 1) (by omega) (putB b l[i]) (putB_le hb) m (by omega))
    unfold al_s_r
    rw [bK_pos (by simp; omega)]
    refine (oK_atD rfl (0, []) (by omega) hi').trans ?_
    have hg : l.getD (i : Int).toNat (0, []) = l[i] := by rw [getD_at hi']; simp
    rw [hg]
    have hb' : b.length ≤ 1000 := by omega
    refine oK_fsq (Q := fun z => z = _) putWS (b, l[i]) hb' ?_
    rw [w64 (by omega) (by omega)]
    rfl
abbrev AlD : Type := Bool × List Write_T × List UInt8
def alH (d : AlD) : St := alHd d.1 d.2.1 d.2.2 0
/-- All, one behind the other. -/
def allF (b : List UInt8) (l : List Write_T) : List UInt8 := allB b l
noncomputable def alL : LP := LP.of (D := AlD) alH (fun d => d.2.1.length ≤ 1000 ∧ d.2.2.length ≤ 24) fun d => .leaf (.exit 0, alEnd (allF d.2.2 d.2.1))
noncomputable def LPl : LPs := LPs.add LP0 15 0 alL
theorem LPl_ok : LPok Try.prog cfg PK5 LPl 15 :=
  LPok.addH LPok.none one15 fun d h => al_run d.1 d.2.1 h.1 d.2.1.length 0 (by omega) d.2.2 h.2 rounds (by have := h.1; simp only [rounds]; omega)
theorem alH_inj (d d' : AlD) (h : alH d = alH d') : d = d' := by
  obtain ⟨x, l, b⟩ := d
  obtain ⟨x', l', b'⟩ := d'
  simp only [alH, alHd, St.mk.injEq, List.cons.injEq, Prod.mk.injEq, AV.slc.injEq, AV.str.injEq, and_true, true_and] at h
  obtain ⟨h1, ⟨h2, h3⟩, _⟩ := h
  rw [h1, h2, map_inj (fs := Write_tfs) rfl h3]
abbrev allW_id : Nat := 15
abbrev allW_sh : Shp := [none, none]
abbrev allW_fs : List Lf := [.fs, .fl true Write_tfs]
abbrev allW_rsh : Shp := [none]
abbrev allW_rfs : List Lf := [.fs]
noncomputable def allW_r (body : List UInt8) (l_x : Bool) (l : List Write_T) : Option Ret :=
  oK (alL.dec { fr := [(0, AV.str body), (7, AV.slc l_x (List.map (mkV true Write_tfs) l)), (8, AV.int IntKind.i64 (↑(List.map (mkV true Write_tfs) l).length : Int)), (9, AV.int IntKind.i64 0)], bs := [], df := [] }) fun (d0 : Bool × List (Int × List UInt8) × List UInt8) => some { pan := false, res := AV.str (allF d0.snd.snd d0.snd.fst), out := [], new := [] }
theorem allW_w (body : List UInt8) (l_x : Bool) (l : List Write_T) : unitQ Try.prog cfg PK5 LPl false 15 (groupA allW_sh (Tu.mk allW_fs (body, (l_x, l)))) [] = allW_r body l_x l := by kernel_rfl

noncomputable def allWS : FS := ⟨allW_sh, allW_fs, allW_rsh, allW_rfs, fun d => d.1.length ≤ 24 ∧ d.2.2.length ≤ 1000, fun d => allF d.1 d.2.2, none⟩
theorem allW_v (body : List UInt8) (l_x : Bool) (l : List Write_T) (h : allWS.pre (body, (l_x, l))) : allW_r body l_x l = some (allWS.ret (body, (l_x, l))) := by
  unfold allW_r
  exact oK_lpq (Q := fun z => z = _) alH_inj (l_x, l, body) ⟨h.2, h.1⟩ rfl
theorem allW_ok : ∀ (d : Tu allW_fs), allWS.pre d → unitQ Try.prog cfg PK5 LPl false 15 (allWS.args d) [] = some (allWS.ret d)
  | (body, (l_x, l)), h => (allW_w body l_x l).trans (allW_v body l_x l h)
noncomputable def PK6 : PKs := PK5.add 15 allWS.pk
theorem PK6_ok : PKsOk Try.prog PK6 := PKsOk.fs (cfg := cfg) PK5_ok (fnOk PK5_ok 21) 15 rfl LPl LPl_ok.loops allWS allW_ok

abbrev fileFronts_id : Nat := 5
abbrev fileFronts_sh : Shp := [none, none, none]
abbrev fileFronts_fs : List Lf := [.fs, .fl false [.fi .u8], .fi .u8]
abbrev fileFronts_rsh : Shp := [none]
abbrev fileFronts_rfs : List Lf := [.fb]
noncomputable def fileFronts_r (body : List UInt8) (picks_x : Bool) (picks : List Int) (cut : Int) : Option Ret :=
  oK (begunS.dec [] []) fun (d0 : PUnit) =>
  bK (decide (24 < (↑body.length : Int))) (some { pan := false, res := AV.bool true, out := [], new := [] })
    (bK (decide (20 < (↑(List.map (mkV false [Lf.fi IntKind.u8]) picks).length : Int))) (some { pan := false, res := AV.bool true, out := [], new := [] })
      (oK (writesS.dec [AV.ptr 1000000 0 0 0, AV.int IntKind.i64 8] [{ v := 0, k := BK.box, fz := false, sz := 0, es := [AV.slc picks_x (List.map (mkV false [Lf.fi IntKind.u8]) picks), AV.int IntKind.i64 0] }]) fun (d1 : ((Bool × List Int) × Int) × Int) =>
        bK (decide (IntKind.i64.wrap ((↑(List.map (mkV true Write_tfs) (writesF d1.fst d1.snd).snd.snd).length : Int) + 1) = 0)) none
          (oK (allWS.dec [AV.str body, AV.slc (writesF d1.fst d1.snd).snd.fst (List.map (mkV true Write_tfs) (writesF d1.fst d1.snd).snd.snd)] []) fun (d2 : List UInt8 × Bool × List (Int × List UInt8)) =>
            bK ((List.map (mkV true Write_tfs) (writesF d1.fst d1.snd).snd.snd).all fun (y : AV) => decide (y.cells.length = 2))
              (bK (decide (0 ≤ (IntKind.i64.wrap cut).tmod (IntKind.i64.wrap ((↑(List.map (mkV true Write_tfs) (writesF d1.fst d1.snd).snd.snd).length : Int) + 1))))
                (bK (decide (0 ≤ ((IntKind.i64.wrap cut).tmod (IntKind.i64.wrap ((↑(List.map (mkV true Write_tfs) (writesF d1.fst d1.snd).snd.snd).length : Int) + 1))).toNat ∧ ((IntKind.i64.wrap cut).tmod (IntKind.i64.wrap ((↑(List.map (mkV true Write_tfs) (writesF d1.fst d1.snd).snd.snd).length : Int) + 1))).toNat ≤ (List.map (mkV true Write_tfs) (writesF d1.fst d1.snd).snd.snd).length))
                  (oK (allWS.dec [AV.str body, AV.slc ((writesF d1.fst d1.snd).snd.fst && decide (((IntKind.i64.wrap cut).tmod (IntKind.i64.wrap ((↑(List.map (mkV true Write_tfs) (writesF d1.fst d1.snd).snd.snd).length : Int) + 1))).toNat = (List.map (mkV true Write_tfs) (writesF d1.fst d1.snd).snd.snd).length)) (List.take (((IntKind.i64.wrap cut).tmod (IntKind.i64.wrap ((↑(List.map (mkV true Write_tfs) (writesF d1.fst d1.snd).snd.snd).length : Int) + 1))).toNat - 0) (List.drop 0 (List.map (mkV true Write_tfs) (writesF d1.fst d1.snd).snd.snd)))] []) fun (d3 : List UInt8 × Bool × List (Int × List UInt8)) =>
                    bK (decide (0 ≤ (IntKind.i64.wrap cut).tmod (IntKind.i64.wrap ((↑(List.map (mkV true Write_tfs) (writesF d1.fst d1.snd).snd.snd).length : Int) + 1))))
                      (bK ((List.map (mkV true Write_tfs) (writesF d1.fst d1.snd).snd.snd).all fun (y : AV) => decide (y.cells.length = 2))
                        (bK (decide (((IntKind.i64.wrap cut).tmod (IntKind.i64.wrap ((↑(List.map (mkV true Write_tfs) (writesF d1.fst d1.snd).snd.snd).length : Int) + 1))).toNat ≤ (List.map (mkV true Write_tfs) (writesF d1.fst d1.snd).snd.snd).length ∧ (List.map (mkV true Write_tfs) (writesF d1.fst d1.snd).snd.snd).length ≤ (List.map (mkV true Write_tfs) (writesF d1.fst d1.snd).snd.snd).length))
                          (oK (allWS.dec [AV.str (allF d3.fst d3.snd.snd), AV.slc ((writesF d1.fst d1.snd).snd.fst && decide ((List.map (mkV true Write_tfs) (writesF d1.fst d1.snd).snd.snd).length = (List.map (mkV true Write_tfs) (writesF d1.fst d1.snd).snd.snd).length)) (List.take ((List.map (mkV true Write_tfs) (writesF d1.fst d1.snd).snd.snd).length - ((IntKind.i64.wrap cut).tmod (IntKind.i64.wrap ((↑(List.map (mkV true Write_tfs) (writesF d1.fst d1.snd).snd.snd).length : Int) + 1))).toNat) (List.drop ((IntKind.i64.wrap cut).tmod (IntKind.i64.wrap ((↑(List.map (mkV true Write_tfs) (writesF d1.fst d1.snd).snd.snd).length : Int) + 1))).toNat (List.map (mkV true Write_tfs) (writesF d1.fst d1.snd).snd.snd)))] []) fun (d4 : List UInt8 × Bool × List (Int × List UInt8)) =>
                            bK (decide (allF d4.fst d4.snd.snd = allF d2.fst d2.snd.snd)) (bK (decide ((↑(List.map (mkV true Write_tfs) (writesF d1.fst d1.snd).snd.snd).length : Int) = 0)) (some { pan := false, res := AV.bool true, out := [], new := [] }) (oK (elemAt true Write_tfs (List.map (mkV true Write_tfs) (writesF d1.fst d1.snd).snd.snd) (IntKind.i64.wrap ((↑(List.map (mkV true Write_tfs) (writesF d1.fst d1.snd).snd.snd).length : Int) - 1))) fun (d5 : Int × List UInt8) => oK (putWS.dec [AV.str (allF d2.fst d2.snd.snd), AV.agg [AV.int IntKind.i64 d5.fst, AV.str d5.snd]] []) fun (d6 : List UInt8 × Int × List UInt8) => some { pan := false, res := AV.bool (decide (putB d6.fst d6.snd = allF d2.fst d2.snd.snd)), out := [], new := [] })) (some { pan := false, res := AV.bool false, out := [], new := [] }))
                          none)
                        none)
                      none)
                  none)
                none)
              none)))
theorem fileFronts_w (body : List UInt8) (picks_x : Bool) (picks : List Int) (cut : Int) : unitQ Try.prog cfg PK6 LP0 true 5 (groupA fileFronts_sh (Tu.mk fileFronts_fs (body, (picks_x, picks), cut))) [] = fileFronts_r body picks_x picks cut := by kernel_rfl

theorem wf8 {l : List Int} (h : ∀ d ∈ l, Tu.wf [.fi .u8] d) : ∀ v ∈ l, 0 ≤ v ∧ v < 256 := fun v hv => by
  have : (0 : Int) ≤ v ∧ v ≤ 255 := h v hv
  omega
theorem allB_app (b : List UInt8) (l m : List Write_T) : allB (allB b l) m = allB b (l ++ m) := by unfold allB; rw [List.foldl_append]
theorem allB_last (b : List UInt8) (l : List Write_T) (h : l ≠ []) : putB (allB b l) (l.getLast h) = allB b l := by
  have e : l = l.dropLast ++ [l.getLast h] := (List.dropLast_concat_getLast h).symm
  have : allB b l = putB (allB b l.dropLast) (l.getLast h) := by
    conv => lhs; rw [e]
    rw [← allB_app]; rfl
  rw [this, putB_twice]
theorem fileFronts_yes (body : List UInt8) (picks_x : Bool) (picks : List Int) (cut : Int) (h : Tu.wf fileFronts_fs (body, (picks_x, picks), cut)) : Yes (fileFronts_r body picks_x picks cut) := by
  obtain ⟨_, hp, hc⟩ := h
  have hp' := wf8 hp.2
  have hc' : (0 : Int) ≤ cut ∧ cut ≤ 255 := hc
  unfold fileFronts_r
  refine oK_fsq begunS () trivial ?_
  refine bK_iq (fun _ => yes_leaf) (fun c1 => ?_)
  refine bK_iq (fun _ => yes_leaf) (fun c2 => ?_)
  have hb : body.length ≤ 24 := by omega
  have hn : picks.length ≤ 20 := by simp only [List.length_map] at c2; omega
  have hk : pkOk ((picks_x, picks), 0) := ⟨Int.le_refl _, by show (0 : Int) ≤ 2 ^ 62; decide, by show picks.length ≤ 2 ^ 62; omega, hp'⟩
  refine oK_msq writesS ((picks_x, picks), 0) (8 : Int) ⟨hk, by decide, by decide⟩ ?_
  have hl := writesF_len (most := 8) hk (by decide)
  generalize writesF ((picks_x, picks), 0) 8 = z at hl ⊢
  obtain ⟨zb, zx, l⟩ := z
  simp only at hl
  simp only [List.length_map]
  have hl' : l.length ≤ 8 := by omega
  have e1 : IntKind.i64.wrap ((l.length : Int) + 1) = (l.length : Int) + 1 := w64 (by omega) (by omega)
  have e2 : IntKind.i64.wrap cut = cut := w64 (by omega) (by omega)
  rw [e1, e2]
  have t0 : 0 ≤ Int.tmod cut ((l.length : Int) + 1) := Int.tmod_nonneg _ hc'.1
  have t1 : Int.tmod cut ((l.length : Int) + 1) < (l.length : Int) + 1 := Int.tmod_lt_of_pos _ (by omega)
  generalize Int.tmod cut ((l.length : Int) + 1) = k at t0 t1 ⊢
  refine bK_iq (fun c => absurd c (by omega)) (fun _ => ?_)
  have hA : ∀ m : List Write_T, m.length ≤ 8 → m.length ≤ 1000 := fun m hm => by omega
  refine oK_fsq allWS (body, (zx, l)) ⟨hb, hA l hl'⟩ ?_
  have hall : ((List.map (mkV true Write_tfs) l).all fun (y : AV) => decide (y.cells.length = 2)) = true := by simp [AV.cells, mkV, mkA, Tu.mk]
  refine bK_tq hall (bK_tq (decide_eq_true t0) (bK_tq (decide_eq_true ⟨Nat.zero_le _, by omega⟩) ?_))
  rw [Nat.sub_zero, List.drop_zero, ← List.map_take, ← List.map_drop]
  refine oK_fsq allWS (body, ((zx && decide (k.toNat = l.length)), l.take k.toNat)) ⟨hb, hA _ (by rw [List.length_take]; omega)⟩ ?_
  refine bK_tq (decide_eq_true t0) (bK_tq hall (bK_tq (decide_eq_true ⟨by omega, Nat.le_refl _⟩) ?_))
  have e3 : List.take (l.length - k.toNat) (List.map (mkV true Write_tfs) (List.drop k.toNat l)) = List.map (mkV true Write_tfs) (List.drop k.toNat l) := List.take_of_length_le (by simp)
  rw [e3]
  refine oK_fsq allWS (allF body (l.take k.toNat), ((zx && decide True), l.drop k.toNat)) ⟨allB_le hb _, hA _ (by rw [List.length_drop]; omega)⟩ ?_
  have e4 : allF (allF body (l.take k.toNat)) (l.drop k.toNat) = allF body l := by
    show allB (allB _ _) _ = allB _ _
    rw [allB_app, List.take_append_drop]
  refine bK_tq (decide_eq_true e4) ?_
  refine bK_iq (fun _ => yes_leaf) (fun c5 => ?_)
  have hne : l ≠ [] := fun e => c5 (by rw [e]; rfl)
  have hpos : 0 < l.length := List.length_pos_iff.2 hne
  rw [w64 (n := (l.length : Int) - 1) (by omega) (by omega)]
  refine oK_atq (0, []) (by omega) (by omega) ?_
  have hg : l.getD ((l.length : Int) - 1).toNat (0, []) = l.getLast hne := by
    rw [getD_at (by omega), List.getLast_eq_getElem]
    congr 1
    omega
  rw [hg]
  have hx : (allF body l).length ≤ 1000 := Nat.le_trans (allB_le hb l) (by decide)
  refine oK_fsq putWS (allF body l, l.getLast hne) hx ?_
  exact yes_of (decide_eq_true (allB_last body l hne))

end Go.Proofs.Ytnmkpfhihjonkaa
