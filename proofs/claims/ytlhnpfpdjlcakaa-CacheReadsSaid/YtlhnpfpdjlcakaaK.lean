/- A part of the proof: contracts of functions. -/
import Derived.Test.YtlhnpfpdjlcakaaL
import Derived.Test.YtlhnpfpdjlcakaaAbCl

set_option linter.unusedVariables false
set_option linter.unusedSimpArgs false
set_option maxRecDepth 100000
namespace Go.Proofs.Ytlhnpfpdjlcakaa
open Go Go.Ab
noncomputable def cl_0 (x : Bool) (d : Write_T) (l : List Write_T) : Option Ret := unitQ Try.prog cfg PK5 LP0 true 35 [.slc x (mkV true Write_tfs d :: l.map (mkV true Write_tfs))] []
noncomputable def cl_0_r (x : Bool) (d : Write_T) (l : List Write_T) : Option Ret :=
  bK ((AV.agg [AV.int IntKind.i64 d.fst, AV.str d.snd] :: List.map (mkV true Write_tfs) l).all fun (y : AV) => decide (y.cells.length = 2)) (bK (true && bytesFit Try.prog 24 (0 + (AV.agg [AV.int IntKind.i64 d.fst, AV.str d.snd] :: List.map (mkV true Write_tfs) l).length)) (some { pan := false, res := AV.sref 2000000 0 0 (0 + (AV.agg [AV.int IntKind.i64 d.fst, AV.str d.snd] :: List.map (mkV true Write_tfs) l).length), out := [], new := [{ v := 0, k := BK.row, fz := false, sz := 2, es := AV.agg [AV.int IntKind.i64 d.fst, AV.str d.snd] :: List.map (mkV true Write_tfs) l }] }) none) none
theorem cl_0_w (x : Bool) (d : Write_T) (l : List Write_T) : cl_0 x d l = cl_0_r x d l := by kernel_rfl

abbrev Writes_fs : List Lf := [.fl true Write_tfs]
/-- The same list. -/
def cloneF (d : Bool × List Write_T) : Bool × List Write_T := (true, d.2)
noncomputable def cloneS : FS := ⟨[none], Writes_fs, [none], Writes_fs, fun d => d.2.length ≤ 100000, fun d => cloneF d, some (0, 2)⟩
theorem cl_ok : ∀ d : Tu cloneS.fs, cloneS.pre d → (∃ x, cloneS.args d = [.slc x []] ∧ cloneS.ret d = { pan := false, res := .slc true [], out := [], new := [] }) ∨ unitQ Try.prog cfg PK5 LP0 true 35 (cloneS.args d) [] = some (cloneS.ret d)
  | (x, []), _ => .inl ⟨x, rfl, rfl⟩
  | (x, d :: l), h => .inr (by
    refine (cl_0_w x d l).trans ?_
    unfold cl_0_r
    have h' : (d :: l).length ≤ 100000 := h
    rw [bK_pos (by simp [AV.cells, mkV, mkA, Tu.mk]), bK_pos (by
      rw [Bool.true_and]
      refine fit24 ?_
      simp only [List.length_cons, List.length_map] at h' ⊢
      omega)]
    show _ = some (cloneS.alts (x, d :: l)).val
    refine (congrArg some ?_).trans (congrArg some (own_one (sz := 2) (x := true) (l := d :: l) (f := mkV true Write_tfs) (out := [])).symm)
    rw [if_neg (by simp)]
    simp only [List.length_cons, List.length_map, Nat.zero_add]
    rfl)
noncomputable def PK6 : PKs := PK5.add 35 cloneS.pk
theorem PK6_ok : PKsOk Try.prog PK6 := PKsOk.cl (cfg := cfg) PK5_ok (fnOk PK5_ok 21) 35 rfl clone35_empty LP0 fLoops_none cloneS cl_ok
abbrev validR_id : Nat := 20
abbrev validR_sh : Shp := [some 8, none]
abbrev validR_fs : List Lf := [.fi .i64, .fi .i64, .fi .i64, .fs, .fl true Write_tfs, .fi .i64, .fb, .fb, .fi .i64]
abbrev validR_rsh : Shp := [none]
abbrev validR_rfs : List Lf := [.fi .i64]
noncomputable def validR_r (c_Mode : Int) (c_Until : Int) (c_Ver : Int) (c_Body : List UInt8) (c_Dirty_x : Bool) (c_Dirty : List Write_T) (c_Sent : Int) (c_Called : Bool) (c_Lost : Bool) (now : Int) : Option Ret :=
  bK (decide (now < c_Until)) (some { pan := false, res := AV.int IntKind.i64 c_Mode, out := [], new := [] }) (some { pan := false, res := AV.int IntKind.i64 0, out := [], new := [] })
theorem validR_w (c_Mode : Int) (c_Until : Int) (c_Ver : Int) (c_Body : List UInt8) (c_Dirty_x : Bool) (c_Dirty : List Write_T) (c_Sent : Int) (c_Called : Bool) (c_Lost : Bool) (now : Int) : unitQ Try.prog cfg PK6 LP0 false 20 (groupA validR_sh (Tu.mk validR_fs (c_Mode, c_Until, c_Ver, c_Body, (c_Dirty_x, c_Dirty), c_Sent, c_Called, c_Lost, now))) [] = validR_r c_Mode c_Until c_Ver c_Body c_Dirty_x c_Dirty c_Sent c_Called c_Lost now := by kernel_rfl

abbrev valid_id : Nat := 19
abbrev valid_sh : Shp := [some 8, none]
abbrev valid_fs : List Lf := [.fi .i64, .fi .i64, .fi .i64, .fs, .fl true Write_tfs, .fi .i64, .fb, .fb, .fi .i64]
abbrev valid_rsh : Shp := [none]
abbrev valid_rfs : List Lf := [.fi .i64]
noncomputable def valid_r (c_Mode : Int) (c_Until : Int) (c_Ver : Int) (c_Body : List UInt8) (c_Dirty_x : Bool) (c_Dirty : List Write_T) (c_Sent : Int) (c_Called : Bool) (c_Lost : Bool) (now : Int) : Option Ret :=
  bK (decide (c_Until ≤ now)) (some { pan := false, res := AV.int IntKind.i64 0, out := [], new := [] }) (some { pan := false, res := AV.int IntKind.i64 c_Mode, out := [], new := [] })
theorem valid_w (c_Mode : Int) (c_Until : Int) (c_Ver : Int) (c_Body : List UInt8) (c_Dirty_x : Bool) (c_Dirty : List Write_T) (c_Sent : Int) (c_Called : Bool) (c_Lost : Bool) (now : Int) : unitQ Try.prog cfg PK6 LP0 false 19 (groupA valid_sh (Tu.mk valid_fs (c_Mode, c_Until, c_Ver, c_Body, (c_Dirty_x, c_Dirty), c_Sent, c_Called, c_Lost, now))) [] = valid_r c_Mode c_Until c_Ver c_Body c_Dirty_x c_Dirty c_Sent c_Called c_Lost now := by kernel_rfl

abbrev lapse_id : Nat := 21
abbrev lapse_sh : Shp := [some 8, none]
abbrev lapse_fs : List Lf := [.fi .i64, .fi .i64, .fi .i64, .fs, .fl true Write_tfs, .fi .i64, .fb, .fb, .fi .i64]
abbrev lapse_rsh : Shp := [some 8]
abbrev lapse_rfs : List Lf := [.fi .i64, .fi .i64, .fi .i64, .fs, .fl true Write_tfs, .fi .i64, .fb, .fb]
noncomputable def lapse_r (c_Mode : Int) (c_Until : Int) (c_Ver : Int) (c_Body : List UInt8) (c_Dirty_x : Bool) (c_Dirty : List Write_T) (c_Sent : Int) (c_Called : Bool) (c_Lost : Bool) (now : Int) : Option Ret :=
  bK (decide (c_Mode = 0)) (oK (cloneS.dec [AV.slc c_Dirty_x (List.map (mkV true Write_tfs) c_Dirty)] []) fun (d0 : Bool × List (Int × List UInt8)) => bK (List.map (mkV true Write_tfs) (cloneF d0).snd).isEmpty (some { pan := false, res := AV.agg [AV.int IntKind.i64 c_Mode, AV.int IntKind.i64 c_Until, AV.int IntKind.i64 c_Ver, AV.str c_Body, AV.slc true [], AV.int IntKind.i64 c_Sent, AV.bool c_Called, AV.bool c_Lost], out := [], new := [] }) (bK (decide (0 + (List.map (mkV true Write_tfs) (cloneF d0).snd).length ≤ (List.map (mkV true Write_tfs) (cloneF d0).snd).length)) (some { pan := false, res := AV.agg [AV.int IntKind.i64 c_Mode, AV.int IntKind.i64 c_Until, AV.int IntKind.i64 c_Ver, AV.str c_Body, AV.slc false (List.take (List.map (mkV true Write_tfs) (cloneF d0).snd).length (List.drop 0 (List.map (mkV true Write_tfs) (cloneF d0).snd))), AV.int IntKind.i64 c_Sent, AV.bool c_Called, AV.bool c_Lost], out := [], new := [] }) none))
  (bK (decide (c_Until ≤ now)) (bK c_Lost (some { pan := false, res := AV.agg [AV.int IntKind.i64 0, AV.int IntKind.i64 0, AV.int IntKind.i64 0, AV.str [], AV.slc true [], AV.int IntKind.i64 0, AV.bool false, AV.bool true], out := [], new := [] }) (some { pan := false, res := AV.agg [AV.int IntKind.i64 0, AV.int IntKind.i64 0, AV.int IntKind.i64 0, AV.str [], AV.slc true [], AV.int IntKind.i64 0, AV.bool false, AV.bool (decide (0 < (↑(List.map (mkV true Write_tfs) c_Dirty).length : Int)))], out := [], new := [] }))
    (bK (!decide (c_Mode = 0)) (oK (cloneS.dec [AV.slc c_Dirty_x (List.map (mkV true Write_tfs) c_Dirty)] []) fun (d1 : Bool × List (Int × List UInt8)) => bK (List.map (mkV true Write_tfs) (cloneF d1).snd).isEmpty (some { pan := false, res := AV.agg [AV.int IntKind.i64 c_Mode, AV.int IntKind.i64 c_Until, AV.int IntKind.i64 c_Ver, AV.str c_Body, AV.slc true [], AV.int IntKind.i64 c_Sent, AV.bool c_Called, AV.bool c_Lost], out := [], new := [] }) (bK (decide (0 + (List.map (mkV true Write_tfs) (cloneF d1).snd).length ≤ (List.map (mkV true Write_tfs) (cloneF d1).snd).length)) (some { pan := false, res := AV.agg [AV.int IntKind.i64 c_Mode, AV.int IntKind.i64 c_Until, AV.int IntKind.i64 c_Ver, AV.str c_Body, AV.slc false (List.take (List.map (mkV true Write_tfs) (cloneF d1).snd).length (List.drop 0 (List.map (mkV true Write_tfs) (cloneF d1).snd))), AV.int IntKind.i64 c_Sent, AV.bool c_Called, AV.bool c_Lost], out := [], new := [] }) none)) (bK c_Lost (some { pan := false, res := AV.agg [AV.int IntKind.i64 0, AV.int IntKind.i64 0, AV.int IntKind.i64 0, AV.str [], AV.slc true [], AV.int IntKind.i64 0, AV.bool false, AV.bool true], out := [], new := [] }) (some { pan := false, res := AV.agg [AV.int IntKind.i64 0, AV.int IntKind.i64 0, AV.int IntKind.i64 0, AV.str [], AV.slc true [], AV.int IntKind.i64 0, AV.bool false, AV.bool (decide (0 < (↑(List.map (mkV true Write_tfs) c_Dirty).length : Int)))], out := [], new := [] }))))
theorem lapse_w (c_Mode : Int) (c_Until : Int) (c_Ver : Int) (c_Body : List UInt8) (c_Dirty_x : Bool) (c_Dirty : List Write_T) (c_Sent : Int) (c_Called : Bool) (c_Lost : Bool) (now : Int) : unitQ Try.prog cfg PK6 LP0 false 21 (groupA lapse_sh (Tu.mk lapse_fs (c_Mode, c_Until, c_Ver, c_Body, (c_Dirty_x, c_Dirty), c_Sent, c_Called, c_Lost, now))) [] = lapse_r c_Mode c_Until c_Ver c_Body c_Dirty_x c_Dirty c_Sent c_Called c_Lost now := by kernel_rfl

abbrev reset_id : Nat := 15
abbrev reset_sh : Shp := [some 8]
abbrev reset_fs : List Lf := [.fi .i64, .fi .i64, .fi .i64, .fs, .fl true Write_tfs, .fi .i64, .fb, .fb]
abbrev reset_rsh : Shp := [some 8]
abbrev reset_rfs : List Lf := [.fi .i64, .fi .i64, .fi .i64, .fs, .fl true Write_tfs, .fi .i64, .fb, .fb]
noncomputable def reset_r (c_Mode : Int) (c_Until : Int) (c_Ver : Int) (c_Body : List UInt8) (c_Dirty_x : Bool) (c_Dirty : List Write_T) (c_Sent : Int) (c_Called : Bool) (c_Lost : Bool) : Option Ret :=
  bK c_Lost (some { pan := false, res := AV.agg [AV.int IntKind.i64 0, AV.int IntKind.i64 0, AV.int IntKind.i64 0, AV.str [], AV.slc true [], AV.int IntKind.i64 0, AV.bool false, AV.bool true], out := [], new := [] }) (some { pan := false, res := AV.agg [AV.int IntKind.i64 0, AV.int IntKind.i64 0, AV.int IntKind.i64 0, AV.str [], AV.slc true [], AV.int IntKind.i64 0, AV.bool false, AV.bool (decide (0 < (↑(List.map (mkV true Write_tfs) c_Dirty).length : Int)))], out := [], new := [] })
theorem reset_w (c_Mode : Int) (c_Until : Int) (c_Ver : Int) (c_Body : List UInt8) (c_Dirty_x : Bool) (c_Dirty : List Write_T) (c_Sent : Int) (c_Called : Bool) (c_Lost : Bool) : unitQ Try.prog cfg PK6 LP0 false 15 (groupA reset_sh (Tu.mk reset_fs (c_Mode, c_Until, c_Ver, c_Body, (c_Dirty_x, c_Dirty), c_Sent, c_Called, c_Lost))) [] = reset_r c_Mode c_Until c_Ver c_Body c_Dirty_x c_Dirty c_Sent c_Called c_Lost := by kernel_rfl

def swHd (x : Bool) (a : List Write_T) (y : Bool) (b : List Write_T) (i : Int) : St := { fr := [(0, .slc x (a.map (mkV true Write_tfs))), (1, .slc y (b.map (mkV true Write_tfs))), (5, .int .i64 i)], bs := [], df := [] }
noncomputable def sw_s (x : Bool) (a : List Write_T) (y : Bool) (b : List Write_T) (i : Int) : Option (St ⊕ (Ex × St)) := stepK Try.prog cfg PK6 LP0 28 0 (swHd x a y b i)
noncomputable def sw_s_r (x : Bool) (a : List Write_T) (y : Bool) (b : List Write_T) (i : Int) : Option (St ⊕ Ex × St) :=
  bK (decide (i < (↑(List.map (mkV true Write_tfs) a).length : Int))) (oK (elemAt true Write_tfs (List.map (mkV true Write_tfs) a) i) fun (d0 : Int × List UInt8) => oK (elemAt true Write_tfs (List.map (mkV true Write_tfs) b) i) fun (d1 : Int × List UInt8) => bK (!(decide (d0.fst = d1.fst) && (decide (d0.snd = d1.snd) && true))) (some (Sum.inr (Ex.ret, { fr := [(4, AV.bool false)], bs := [], df := [] }))) (some (Sum.inl { fr := [(0, AV.slc x (List.map (mkV true Write_tfs) a)), (1, AV.slc y (List.map (mkV true Write_tfs) b)), (5, AV.int IntKind.i64 (IntKind.i64.wrap (i + 1)))], bs := [], df := [] }))) (some (Sum.inr (Ex.exit 0, { fr := [], bs := [], df := [] })))
theorem sw_s_w (x : Bool) (a : List Write_T) (y : Bool) (b : List Write_T) (i : Int) : sw_s x a y b i = sw_s_r x a y b i := by kernel_rfl

def cOf (d : Tu lapse_fs) : Cache_T := (d.1, d.2.1, d.2.2.1, d.2.2.2.1, d.2.2.2.2.1, d.2.2.2.2.2.1, d.2.2.2.2.2.2.1, d.2.2.2.2.2.2.2.1)
def nOf (d : Tu lapse_fs) : Int := d.2.2.2.2.2.2.2.2
def resetF (c : Cache_T) : Cache_T := (0, 0, 0, [], (true, []), 0, false, c.2.2.2.2.2.2.2 || decide (0 < (c.2.2.2.2.1.2.length : Int)))
def twinF (c : Cache_T) : Cache_T := (c.1, c.2.1, c.2.2.1, c.2.2.2.1, (c.2.2.2.2.1.2.isEmpty, c.2.2.2.2.1.2), c.2.2.2.2.2.1, c.2.2.2.2.2.2.1, c.2.2.2.2.2.2.2)
def lapseF (c : Cache_T) (now : Int) : Cache_T := if c.1 = 0 ∨ now < c.2.1 then twinF c else resetF c
def lapseS : FS := ⟨lapse_sh, lapse_fs, lapse_rsh, lapse_rfs, fun d => (dOf (cOf d)).length ≤ 100000, fun d => lapseF (cOf d) (nOf d), none⟩
theorem twin_eq {md un ve : Int} {bo : List UInt8} {D : List Write_T} {se : Int} {ca lo : Bool} (h : D.length ≤ 100000) (x : Bool) :
    (oK (cloneS.dec [AV.slc x (List.map (mkV true Write_tfs) D)] []) fun (d0 : Bool × List (Int × List UInt8)) => bK (List.map (mkV true Write_tfs) (cloneF d0).snd).isEmpty (some ({ pan := false, res := AV.agg [AV.int IntKind.i64 md, AV.int IntKind.i64 un, AV.int IntKind.i64 ve, AV.str bo, AV.slc true [], AV.int IntKind.i64 se, AV.bool ca, AV.bool lo], out := [], new := [] } : Ret)) (bK (decide (0 + (List.map (mkV true Write_tfs) (cloneF d0).snd).length ≤ (List.map (mkV true Write_tfs) (cloneF d0).snd).length)) (some { pan := false, res := AV.agg [AV.int IntKind.i64 md, AV.int IntKind.i64 un, AV.int IntKind.i64 ve, AV.str bo, AV.slc false (List.take (List.map (mkV true Write_tfs) (cloneF d0).snd).length (List.drop 0 (List.map (mkV true Write_tfs) (cloneF d0).snd))), AV.int IntKind.i64 se, AV.bool ca, AV.bool lo], out := [], new := [] }) none))
    = some { pan := false, res := .agg (Tu.mk Cache_tfs (twinF (md, un, ve, bo, (x, D), se, ca, lo))), out := [], new := [] } := by
  refine oK_fsq (Q := fun z => z = _) cloneS (x, D) h ?_
  have hc : (cloneF (x, D)).2 = D := rfl
  simp only [hc]
  cases D with
  | nil => rfl
  | cons d l =>
    refine bK_fq (Q := fun z => z = _) rfl ?_
    rw [bK_pos (by simp), List.drop_zero, List.take_length]
    rfl
theorem lapse_v (c_Mode : Int) (c_Until : Int) (c_Ver : Int) (c_Body : List UInt8) (c_Dirty_x : Bool) (c_Dirty : List Write_T) (c_Sent : Int) (c_Called : Bool) (c_Lost : Bool) (now : Int) (h : lapseS.pre (c_Mode, c_Until, c_Ver, c_Body, (c_Dirty_x, c_Dirty), c_Sent, c_Called, c_Lost, now)) : lapse_r c_Mode c_Until c_Ver c_Body c_Dirty_x c_Dirty c_Sent c_Called c_Lost now = some (lapseS.ret (c_Mode, c_Until, c_Ver, c_Body, (c_Dirty_x, c_Dirty), c_Sent, c_Called, c_Lost, now)) := by
  have h' : c_Dirty.length ≤ 100000 := h
  show _ = some (lapseS.out (lapseF (c_Mode, c_Until, c_Ver, c_Body, (c_Dirty_x, c_Dirty), c_Sent, c_Called, c_Lost) now))
  unfold lapse_r
  have hr : (bK c_Lost (some ({ pan := false, res := AV.agg [AV.int IntKind.i64 0, AV.int IntKind.i64 0, AV.int IntKind.i64 0, AV.str [], AV.slc true [], AV.int IntKind.i64 0, AV.bool false, AV.bool true], out := [], new := [] } : Ret)) (some { pan := false, res := AV.agg [AV.int IntKind.i64 0, AV.int IntKind.i64 0, AV.int IntKind.i64 0, AV.str [], AV.slc true [], AV.int IntKind.i64 0, AV.bool false, AV.bool (decide (0 < (↑(List.map (mkV true Write_tfs) c_Dirty).length : Int)))], out := [], new := [] })) = some { pan := false, res := .agg (Tu.mk Cache_tfs (resetF (c_Mode, c_Until, c_Ver, c_Body, (c_Dirty_x, c_Dirty), c_Sent, c_Called, c_Lost))), out := [], new := [] } := by
    rw [List.length_map]
    cases c_Lost <;> rfl
  rw [twin_eq h', hr]
  refine bK_i (fun c1 => ?_) (fun c1 => bK_i (fun c2 => ?_) (fun c2 => ?_))
  · unfold lapseF
    rw [if_pos (.inl c1)]
    rfl
  · unfold lapseF
    rw [if_neg (by show ¬ (c_Mode = 0 ∨ now < c_Until); omega)]
    rfl
  · rw [bK_pos (by simp [c1])]
    unfold lapseF
    rw [if_pos (.inr (by show now < c_Until; omega))]
    rfl
theorem lapse_ok : ∀ (d : Tu lapse_fs), lapseS.pre d → unitQ Try.prog cfg PK6 LP0 false 21 (lapseS.args d) [] = some (lapseS.ret d)
  | (c_Mode, c_Until, c_Ver, c_Body, (c_Dirty_x, c_Dirty), c_Sent, c_Called, c_Lost, now), h => (lapse_w c_Mode c_Until c_Ver c_Body c_Dirty_x c_Dirty c_Sent c_Called c_Lost now).trans (lapse_v c_Mode c_Until c_Ver c_Body c_Dirty_x c_Dirty c_Sent c_Called c_Lost now h)
noncomputable def PK7 : PKs := PK6.add 21 lapseS.pk
theorem PK7_ok : PKsOk Try.prog PK7 := PKsOk.fs (cfg := cfg) PK6_ok (fnOk PK6_ok 21) 21 rfl LP0 fLoops_none lapseS lapse_ok

def validF (c : Cache_T) (now : Int) : Int := if now < c.2.1 then c.1 else 0
def validS : FS := ⟨valid_sh, valid_fs, valid_rsh, valid_rfs, fun _ => True, fun d => validF (cOf d) (nOf d), none⟩
theorem valid_v (c_Mode : Int) (c_Until : Int) (c_Ver : Int) (c_Body : List UInt8) (c_Dirty_x : Bool) (c_Dirty : List Write_T) (c_Sent : Int) (c_Called : Bool) (c_Lost : Bool) (now : Int) (h : validS.pre (c_Mode, c_Until, c_Ver, c_Body, (c_Dirty_x, c_Dirty), c_Sent, c_Called, c_Lost, now)) : valid_r c_Mode c_Until c_Ver c_Body c_Dirty_x c_Dirty c_Sent c_Called c_Lost now = some (validS.ret (c_Mode, c_Until, c_Ver, c_Body, (c_Dirty_x, c_Dirty), c_Sent, c_Called, c_Lost, now)) := by
  show _ = some (validS.out (validF (c_Mode, c_Until, c_Ver, c_Body, (c_Dirty_x, c_Dirty), c_Sent, c_Called, c_Lost) now))
  unfold valid_r validF
  refine bK_i (fun c1 => ?_) (fun c1 => ?_)
  · rw [if_neg (by show ¬ now < c_Until; omega)]; rfl
  · rw [if_pos (by show now < c_Until; omega)]; rfl
theorem valid_ok : ∀ (d : Tu valid_fs), validS.pre d → unitQ Try.prog cfg PK6 LP0 false 19 (validS.args d) [] = some (validS.ret d)
  | (c_Mode, c_Until, c_Ver, c_Body, (c_Dirty_x, c_Dirty), c_Sent, c_Called, c_Lost, now), h => (valid_w c_Mode c_Until c_Ver c_Body c_Dirty_x c_Dirty c_Sent c_Called c_Lost now).trans (valid_v c_Mode c_Until c_Ver c_Body c_Dirty_x c_Dirty c_Sent c_Called c_Lost now h)
noncomputable def PK7v : PKs := PK6.add 19 validS.pk
theorem PK7v_ok : PKsOk Try.prog PK7v := PKsOk.fs (cfg := cfg) PK6_ok (fnOk PK6_ok 21) 19 rfl LP0 fLoops_none validS valid_ok

noncomputable def PK8 : PKs := PK7.add 19 validS.pk
theorem PK8_ok : PKsOk Try.prog PK8 := PKsOk.take PK7_ok PK7v_ok rfl
def swEnd : St := { fr := [], bs := [], df := [] }
def swRet : St := { fr := [(4, .bool false)], bs := [], df := [] }
theorem loops28 : (loopsOf 0 (codeOf Try.prog 28)).map (·.1) = [0] := by kernel_rfl
theorem one28 : OneLoops Try.prog 28 := by unfold OneLoops; rw [loops28]; decide
theorem at28 : At 0 (codeOf Try.prog 28) 0 (.loop (bodyAt Try.prog 28 0)) := at_body one28 (by rw [loops28]; decide)
def swX (e : Bool) : Ex × St := if e then (.exit 0, swEnd) else (.ret, swRet)
theorem sw_run (x : Bool) (a : List Write_T) (y : Bool) (b : List Write_T) (hl : a.length ≤ 100000) (hb : b.length = a.length) : ∀ (k i : Nat), i + k = a.length → ∀ (m : Nat), k < m →
    Runs' Try.prog cfg PK6 28 0 m (swHd x a y b i) (swX (decide (a.drop i = b.drop i)))
  | 0, i, hi, m + 1, hm => by
    refine Runs'.done (lp := LP0) LPok.none at28 ((sw_s_w x a y b i).trans ?_)
    unfold sw_s_r
    rw [bK_neg (by simp; omega), List.drop_of_length_le (show a.length ≤ i by omega), List.drop_of_length_le (show b.length ≤ i by omega), decide_eq_true rfl]
    rfl
  | k + 1, i, hi, m + 1, hm => by
    have ha : i < a.length := by omega
    have hb' : i < b.length := by omega
    have hs : sw_s x a y b i = (if a.getD i (0, []) = b.getD i (0, []) then some (.inl (swHd x a y b ((i + 1 : Nat) : Int))) else some (.inr (.ret, swRet))) := by
      refine (sw_s_w x a y b i).trans ?_
      unfold sw_s_r
      refine bK_tq (Q := fun z => z = _) (by simp; omega) ?_
      refine oK_atq (Q := fun z => z = _) (0, []) (by omega) (by simpa using ha) ?_
      refine oK_atq (Q := fun z => z = _) (0, []) (by omega) (by simpa using hb') ?_
      rw [Int.toNat_natCast]
      generalize a.getD i (0, []) = p
      generalize b.getD i (0, []) = q
      obtain ⟨p1, p2⟩ := p
      obtain ⟨q1, q2⟩ := q
      rw [w64 (by omega) (by omega)]
      by_cases e : (p1, p2) = (q1, q2)
      · rw [if_pos e]
        cases e
        rw [bK_neg (by simp)]
        rfl
      · rw [if_neg e, bK_pos (by simp only [Bool.and_true, Bool.not_eq_true', Bool.and_eq_false_imp, decide_eq_true_eq, decide_eq_false_iff_not]; intro h1 h2; exact e (by rw [h1, h2]))]
        rfl
    have ea : a.drop i = a.getD i (0, []) :: a.drop (i + 1) := by rw [List.drop_eq_getElem_cons ha, getD_at ha]
    have eb : b.drop i = b.getD i (0, []) :: b.drop (i + 1) := by rw [List.drop_eq_getElem_cons hb', getD_at hb']
    by_cases e : a.getD i (0, []) = b.getD i (0, [])
    · rw [if_pos e] at hs
      have : decide (a.drop i = b.drop i) = decide (a.drop (i + 1) = b.drop (i + 1)) := by
        rw [ea, eb, e]; simp
      rw [this]
      exact Runs'.step (lp := LP0) LPok.none at28 hs (sw_run x a y b hl hb k (i + 1) (by omega) m (by omega))
    · rw [if_neg e] at hs
      have : decide (a.drop i = b.drop i) = false := by
        rw [ea, eb]; exact decide_eq_false (fun h => e (List.cons.inj h).1)
      rw [this]
      exact Runs'.done (lp := LP0) LPok.none at28 hs
abbrev SwD : Type := Bool × List Write_T × Bool × List Write_T
def swH (d : SwD) : St := swHd d.1 d.2.1 d.2.2.1 d.2.2.2 0
/-- Alike. -/
def sameQ (a b : List Write_T) : Bool := decide (a = b)
noncomputable def swL : LP := LP.of (D := SwD) swH (fun d => d.2.1.length ≤ 100000 ∧ d.2.2.2.length = d.2.1.length) fun d => .ite (sameQ d.2.1 d.2.2.2) (.leaf (.exit 0, swEnd)) (.leaf (.ret, swRet))
noncomputable def LPw : LPs := LPs.add LP0 28 0 swL
theorem LPw_ok : LPok Try.prog cfg PK6 LPw 28 :=
  LPok.addH LPok.none one28 fun d h => by
    have := sw_run d.1 d.2.1 d.2.2.1 d.2.2.2 h.1 h.2 d.2.1.length 0 (by omega) rounds (by have : d.2.1.length ≤ 100000 := h.1; simp only [rounds]; omega)
    simp only [List.drop_zero] at this
    refine cast ?_ this
    congr 1
theorem swH_inj (d d' : SwD) (h : swH d = swH d') : d = d' := by
  obtain ⟨x, a, y, b⟩ := d
  obtain ⟨x', a', y', b'⟩ := d'
  simp only [swH, swHd, St.mk.injEq, List.cons.injEq, Prod.mk.injEq, AV.slc.injEq, and_true, true_and] at h
  obtain ⟨⟨h1, h2⟩, h3, h4⟩ := h
  rw [h1, map_inj (fs := Write_tfs) rfl h2, h3, map_inj (fs := Write_tfs) rfl h4]
abbrev sameW_id : Nat := 28
abbrev sameW_sh : Shp := [none, none]
abbrev sameW_fs : List Lf := [.fl true Write_tfs, .fl true Write_tfs]
abbrev sameW_rsh : Shp := [none]
abbrev sameW_rfs : List Lf := [.fb]
noncomputable def sameW_r (a_x : Bool) (a : List Write_T) (b_x : Bool) (b : List Write_T) : Option Ret :=
  bK (!decide ((↑(List.map (mkV true Write_tfs) a).length : Int) = (↑(List.map (mkV true Write_tfs) b).length : Int))) (some { pan := false, res := AV.bool false, out := [], new := [] }) (oK (swL.dec { fr := [(0, AV.slc a_x (List.map (mkV true Write_tfs) a)), (1, AV.slc b_x (List.map (mkV true Write_tfs) b)), (5, AV.int IntKind.i64 0)], bs := [], df := [] }) fun (d0 : Bool × List (Int × List UInt8) × Bool × List (Int × List UInt8)) => bK (sameQ d0.snd.fst d0.snd.snd.snd) (some { pan := false, res := AV.bool true, out := [], new := [] }) (some { pan := false, res := AV.bool false, out := [], new := [] }))
theorem sameW_w (a_x : Bool) (a : List Write_T) (b_x : Bool) (b : List Write_T) : unitQ Try.prog cfg PK6 LPw false 28 (groupA sameW_sh (Tu.mk sameW_fs ((a_x, a), (b_x, b)))) [] = sameW_r a_x a b_x b := by kernel_rfl

def sameWS : FS := ⟨sameW_sh, sameW_fs, sameW_rsh, sameW_rfs, fun d => d.1.2.length ≤ 100000, fun d => sameQ d.1.2 d.2.2, none⟩
theorem sameW_v (a_x : Bool) (a : List Write_T) (b_x : Bool) (b : List Write_T) (h : sameWS.pre ((a_x, a), (b_x, b))) : sameW_r a_x a b_x b = some (sameWS.ret ((a_x, a), (b_x, b))) := by
  have h' : a.length ≤ 100000 := h
  show _ = some (sameWS.out (sameQ a b))
  unfold sameW_r
  simp only [List.length_map]
  refine bK_n (fun c1 => ?_) (fun c1 => ?_)
  · have : sameQ a b = false := decide_eq_false (by intro e; rw [e] at c1; exact c1 rfl)
    rw [this]; rfl
  · refine oK_lpq (Q := fun z => z = _) swH_inj (a_x, a, b_x, b) ⟨h', by show b.length = a.length; omega⟩ ?_
    show bK (sameQ a b) _ _ = _
    cases sameQ a b <;> rfl
theorem sameW_ok : ∀ (d : Tu sameW_fs), sameWS.pre d → unitQ Try.prog cfg PK6 LPw false 28 (sameWS.args d) [] = some (sameWS.ret d)
  | ((a_x, a), (b_x, b)), h => (sameW_w a_x a b_x b).trans (sameW_v a_x a b_x b h)
noncomputable def PK8w : PKs := PK6.add 28 sameWS.pk
theorem PK8w_ok : PKsOk Try.prog PK8w := PKsOk.fs (cfg := cfg) PK6_ok (fnOk PK6_ok 21) 28 rfl LPw (LPw_ok.loops) sameWS sameW_ok

noncomputable def PK9 : PKs := PK8.add 28 sameWS.pk
theorem PK9_ok : PKsOk Try.prog PK9 := PKsOk.take PK8_ok PK8w_ok rfl
abbrev sameC_id : Nat := 12
abbrev sameC_sh : Shp := [some 8, some 8]
abbrev sameC_fs : List Lf := [.fi .i64, .fi .i64, .fi .i64, .fs, .fl true Write_tfs, .fi .i64, .fb, .fb, .fi .i64, .fi .i64, .fi .i64, .fs, .fl true Write_tfs, .fi .i64, .fb, .fb]
abbrev sameC_rsh : Shp := [none]
abbrev sameC_rfs : List Lf := [.fb]
noncomputable def sameC_r (a_Mode : Int) (a_Until : Int) (a_Ver : Int) (a_Body : List UInt8) (a_Dirty_x : Bool) (a_Dirty : List Write_T) (a_Sent : Int) (a_Called : Bool) (a_Lost : Bool) (b_Mode : Int) (b_Until : Int) (b_Ver : Int) (b_Body : List UInt8) (b_Dirty_x : Bool) (b_Dirty : List Write_T) (b_Sent : Int) (b_Called : Bool) (b_Lost : Bool) : Option Ret :=
  bK (decide (a_Mode = b_Mode)) (bK (decide (a_Until = b_Until)) (bK (decide (a_Ver = b_Ver)) (bK (decide (a_Body = b_Body)) (oK (sameWS.dec [AV.slc a_Dirty_x (List.map (mkV true Write_tfs) a_Dirty), AV.slc b_Dirty_x (List.map (mkV true Write_tfs) b_Dirty)] []) fun (d0 : (Bool × List (Int × List UInt8)) × Bool × List (Int × List UInt8)) => bK (sameQ d0.fst.snd d0.snd.snd) (bK (decide (a_Sent = b_Sent)) (bK (a_Called == b_Called) (some { pan := false, res := AV.bool (a_Lost == b_Lost), out := [], new := [] }) (some { pan := false, res := AV.bool false, out := [], new := [] })) (some { pan := false, res := AV.bool false, out := [], new := [] })) (some { pan := false, res := AV.bool false, out := [], new := [] })) (some { pan := false, res := AV.bool false, out := [], new := [] })) (some { pan := false, res := AV.bool false, out := [], new := [] })) (some { pan := false, res := AV.bool false, out := [], new := [] })) (some { pan := false, res := AV.bool false, out := [], new := [] })
theorem sameC_w (a_Mode : Int) (a_Until : Int) (a_Ver : Int) (a_Body : List UInt8) (a_Dirty_x : Bool) (a_Dirty : List Write_T) (a_Sent : Int) (a_Called : Bool) (a_Lost : Bool) (b_Mode : Int) (b_Until : Int) (b_Ver : Int) (b_Body : List UInt8) (b_Dirty_x : Bool) (b_Dirty : List Write_T) (b_Sent : Int) (b_Called : Bool) (b_Lost : Bool) : unitQ Try.prog cfg PK9 LP0 false 12 (groupA sameC_sh (Tu.mk sameC_fs (a_Mode, a_Until, a_Ver, a_Body, (a_Dirty_x, a_Dirty), a_Sent, a_Called, a_Lost, b_Mode, b_Until, b_Ver, b_Body, (b_Dirty_x, b_Dirty), b_Sent, b_Called, b_Lost))) [] = sameC_r a_Mode a_Until a_Ver a_Body a_Dirty_x a_Dirty a_Sent a_Called a_Lost b_Mode b_Until b_Ver b_Body b_Dirty_x b_Dirty b_Sent b_Called b_Lost := by kernel_rfl

def sA (d : Tu sameC_fs) : Cache_T := (d.1, d.2.1, d.2.2.1, d.2.2.2.1, d.2.2.2.2.1, d.2.2.2.2.2.1, d.2.2.2.2.2.2.1, d.2.2.2.2.2.2.2.1)
def sB (d : Tu sameC_fs) : Cache_T := let e := d.2.2.2.2.2.2.2.2; (e.1, e.2.1, e.2.2.1, e.2.2.2.1, e.2.2.2.2.1, e.2.2.2.2.2.1, e.2.2.2.2.2.2.1, e.2.2.2.2.2.2.2)
def normC (c : Cache_T) : Int × Int × Int × List UInt8 × List Write_T × Int × Bool × Bool := (c.1, c.2.1, c.2.2.1, c.2.2.2.1, c.2.2.2.2.1.2, c.2.2.2.2.2.1, c.2.2.2.2.2.2.1, c.2.2.2.2.2.2.2)
/-- Alike in all. -/
noncomputable def sameCF (a b : Cache_T) : Bool := open Classical in decide (normC a = normC b)
noncomputable def sameCS : FS := ⟨sameC_sh, sameC_fs, sameC_rsh, sameC_rfs, fun d => (dOf (sA d)).length ≤ 100000, fun d => sameCF (sA d) (sB d), none⟩
theorem sameC_v (a_Mode : Int) (a_Until : Int) (a_Ver : Int) (a_Body : List UInt8) (a_Dirty_x : Bool) (a_Dirty : List Write_T) (a_Sent : Int) (a_Called : Bool) (a_Lost : Bool) (b_Mode : Int) (b_Until : Int) (b_Ver : Int) (b_Body : List UInt8) (b_Dirty_x : Bool) (b_Dirty : List Write_T) (b_Sent : Int) (b_Called : Bool) (b_Lost : Bool) (h : sameCS.pre (a_Mode, a_Until, a_Ver, a_Body, (a_Dirty_x, a_Dirty), a_Sent, a_Called, a_Lost, b_Mode, b_Until, b_Ver, b_Body, (b_Dirty_x, b_Dirty), b_Sent, b_Called, b_Lost)) : sameC_r a_Mode a_Until a_Ver a_Body a_Dirty_x a_Dirty a_Sent a_Called a_Lost b_Mode b_Until b_Ver b_Body b_Dirty_x b_Dirty b_Sent b_Called b_Lost = some (sameCS.ret (a_Mode, a_Until, a_Ver, a_Body, (a_Dirty_x, a_Dirty), a_Sent, a_Called, a_Lost, b_Mode, b_Until, b_Ver, b_Body, (b_Dirty_x, b_Dirty), b_Sent, b_Called, b_Lost)) := by
  have h' : a_Dirty.length ≤ 100000 := h
  show _ = some (sameCS.out (sameCF (a_Mode, a_Until, a_Ver, a_Body, (a_Dirty_x, a_Dirty), a_Sent, a_Called, a_Lost) (b_Mode, b_Until, b_Ver, b_Body, (b_Dirty_x, b_Dirty), b_Sent, b_Called, b_Lost)))
  have hE : sameCF (a_Mode, a_Until, a_Ver, a_Body, (a_Dirty_x, a_Dirty), a_Sent, a_Called, a_Lost) (b_Mode, b_Until, b_Ver, b_Body, (b_Dirty_x, b_Dirty), b_Sent, b_Called, b_Lost) = decide (a_Mode = b_Mode ∧ a_Until = b_Until ∧ a_Ver = b_Ver ∧ a_Body = b_Body ∧ a_Dirty = b_Dirty ∧ a_Sent = b_Sent ∧ a_Called = b_Called ∧ a_Lost = b_Lost) := by
    unfold sameCF normC
    refine decide_eq_decide.2 ?_
    simp only [Prod.mk.injEq]
  rw [hE]
  unfold sameC_r
  have no : ∀ {p : Prop} [Decidable p], ¬ p → some ({ pan := false, res := AV.bool false, out := [], new := [] } : Ret) = some (sameCS.out (decide p)) := fun h => by rw [decide_eq_false h]; rfl
  refine bK_i (fun c1 => bK_i (fun c2 => bK_i (fun c3 => bK_i (fun c4 => ?_) (fun c => no (by simp [c]))) (fun c => no (by simp [c]))) (fun c => no (by simp [c]))) (fun c => no (by simp [c]))
  refine oK_fsq (Q := fun z => z = _) sameWS ((a_Dirty_x, a_Dirty), (b_Dirty_x, b_Dirty)) h' ?_
  refine bK_b (fun c5 => bK_i (fun c6 => bK_b (fun c7 => ?_) (fun c => no (by rintro ⟨_, _, _, _, _, _, h7, _⟩; rw [h7] at c; simp at c))) (fun c => no (by simp [c]))) (fun c => no (by rintro ⟨_, _, _, _, h5, _⟩; exact of_decide_eq_false c h5))
  have e5 : a_Dirty = b_Dirty := of_decide_eq_true c5
  have e7 : a_Called = b_Called := eq_of_beq c7
  subst c1 c2 c3 c4 e5 c6 e7
  simp only [true_and]
  cases a_Lost <;> cases b_Lost <;> rfl
theorem sameC_ok : ∀ (d : Tu sameC_fs), sameCS.pre d → unitQ Try.prog cfg PK9 LP0 false 12 (sameCS.args d) [] = some (sameCS.ret d)
  | (a_Mode, a_Until, a_Ver, a_Body, (a_Dirty_x, a_Dirty), a_Sent, a_Called, a_Lost, b_Mode, b_Until, b_Ver, b_Body, (b_Dirty_x, b_Dirty), b_Sent, b_Called, b_Lost), h => (sameC_w a_Mode a_Until a_Ver a_Body a_Dirty_x a_Dirty a_Sent a_Called a_Lost b_Mode b_Until b_Ver b_Body b_Dirty_x b_Dirty b_Sent b_Called b_Lost).trans (sameC_v a_Mode a_Until a_Ver a_Body a_Dirty_x a_Dirty a_Sent a_Called a_Lost b_Mode b_Until b_Ver b_Body b_Dirty_x b_Dirty b_Sent b_Called b_Lost h)
noncomputable def PK9c : PKs := PK9.add 12 sameCS.pk
theorem PK9c_ok : PKsOk Try.prog PK9c := PKsOk.fs (cfg := cfg) PK9_ok (fnOk PK9_ok 21) 12 rfl LP0 fLoops_none sameCS sameC_ok

noncomputable def PK10 : PKs := PK9.add 12 sameCS.pk
theorem PK10_ok : PKsOk Try.prog PK10 := PKsOk.take PK9_ok PK9c_ok rfl
abbrev lapD (c : Cache_T) (n : Int) : Tu lapse_fs := (c.1, c.2.1, c.2.2.1, c.2.2.2.1, c.2.2.2.2.1, c.2.2.2.2.2.1, c.2.2.2.2.2.2.1, c.2.2.2.2.2.2.2, n)
abbrev samD (a b : Cache_T) : Tu sameC_fs := (a.1, a.2.1, a.2.2.1, a.2.2.2.1, a.2.2.2.2.1, a.2.2.2.2.2.1, a.2.2.2.2.2.2.1, a.2.2.2.2.2.2.2, b.1, b.2.1, b.2.2.1, b.2.2.2.1, b.2.2.2.2.1, b.2.2.2.2.2.1, b.2.2.2.2.2.2.1, b.2.2.2.2.2.2.2)
theorem oK_lap {R : Type} (c : Cache_T) (n : Int) (h : (dOf c).length ≤ 100000) {k : Tu lapse_fs → Option R} {Q : Option R → Prop} (hz : Q (k (lapD c n))) : Q (oK (lapseS.dec (lapseS.args (lapD c n)) []) k) := oK_fsq lapseS (lapD c n) h hz
theorem oK_sam {R : Type} (a b : Cache_T) (h : (dOf a).length ≤ 100000) {k : Tu sameC_fs → Option R} {Q : Option R → Prop} (hz : Q (k (samD a b))) : Q (oK (sameCS.dec (sameCS.args (samD a b)) []) k) := oK_fsq sameCS (samD a b) h hz
theorem oK_val {R : Type} (c : Cache_T) (n : Int) {k : Tu valid_fs → Option R} {Q : Option R → Prop} (hz : Q (k (lapD c n))) : Q (oK (validS.dec (validS.args (lapD c n)) []) k) := oK_fsq validS (lapD c n) trivial hz
theorem same_of {a b : Cache_T} (h : normC a = normC b) : sameCF a b = true := by
  unfold sameCF
  simp only [h, decide_true]
theorem lapseF_keep {c : Cache_T} {n : Int} (h : c.1 = 0 ∨ n < c.2.1) : lapseF c n = twinF c := if_pos h
theorem lapseF_over {c : Cache_T} {n : Int} (h : ¬ (c.1 = 0 ∨ n < c.2.1)) : lapseF c n = resetF c := if_neg h
theorem lapseF_len {c : Cache_T} {n : Int} {m : Nat} (h : (dOf c).length ≤ m) : (dOf (lapseF c n)).length ≤ m := by
  unfold lapseF
  split
  · exact h
  · exact Nat.zero_le _

end Go.Proofs.Ytlhnpfpdjlcakaa
