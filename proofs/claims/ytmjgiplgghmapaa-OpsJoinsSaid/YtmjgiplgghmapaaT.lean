/- A part of the proof: contracts of functions. -/
import Derived.Test.YtmjgiplgghmapaaR
import Derived.Test.YtmjgiplgghmapaaAbAny

set_option linter.unusedVariables false
set_option linter.unusedSimpArgs false
set_option maxRecDepth 100000
namespace Go.Proofs.Ytmjgiplgghmapaa
open Go Go.Ab
def tkHd (x : Bool) (l : List Int) (v i : Int) : St := { fr := [(4, .int .i64 v), (5, .ptr 80 0 0 0), (16, .slc x (l.map (mkV false [.fi .u8]))), (17, .int .i64 ((l.map (mkV false [.fi .u8])).length : Int)), (18, .int .i64 i)], bs := [(80, boxB [.bool false])], df := [(.fn 56 [] [], [.ptr 80 0 0 0])] }
noncomputable def tk_s (x : Bool) (l : List Int) (v i : Int) : Option (St ⊕ (Ex × St)) := stepK Try.prog cfg PK3 LP0 48 0 (tkHd x l v i)
noncomputable def tk_s_r (x : Bool) (l : List Int) (v : Int) (i : Int) : Option (St ⊕ Ex × St) :=
  bK (decide (i < (↑(List.map (mkV false [Lf.fi IntKind.u8]) l).length : Int))) (oK (elemAt false [Lf.fi IntKind.u8] (List.map (mkV false [Lf.fi IntKind.u8]) l) i) fun (d0 : Int) => some (Sum.inl { fr := [(4, AV.int IntKind.i64 (IntKind.i64.wrap (↑(BitVec.ofInt 64 (IntKind.i64.wrap (v * 256)) ||| BitVec.ofInt 64 (IntKind.i64.wrap d0)).toNat : Int))), (5, AV.ptr 80 0 0 0), (16, AV.slc x (List.map (mkV false [Lf.fi IntKind.u8]) l)), (17, AV.int IntKind.i64 (↑(List.map (mkV false [Lf.fi IntKind.u8]) l).length : Int)), (18, AV.int IntKind.i64 (IntKind.i64.wrap (i + 1)))], bs := [(80, { v := 0, k := BK.box, fz := false, sz := 0, es := [AV.bool false] })], df := [(AV.fn 56 [] [], [AV.ptr 80 0 0 0])] })) (some (Sum.inr (Ex.exit 0, { fr := [(4, AV.int IntKind.i64 v), (5, AV.ptr 80 0 0 0)], bs := [(80, { v := 0, k := BK.box, fz := false, sz := 0, es := [AV.bool false] })], df := [(AV.fn 56 [] [], [AV.ptr 80 0 0 0])] })))
theorem tk_s_w (x : Bool) (l : List Int) (v : Int) (i : Int) : tk_s x l v i = tk_s_r x l v i := by kernel_rfl

def trHd (x : Bool) (l : List Int) (n v i : Int) : St := { fr := [(0, .slc x (l.map (mkV false [.fi .u8]))), (1, .int .i64 n), (6, .int .i64 v), (7, .int .i64 i)], bs := [], df := [] }
noncomputable def tr_s (x : Bool) (l : List Int) (n v i : Int) : Option (St ⊕ (Ex × St)) := stepK Try.prog cfg PK3 LP0 34 0 (trHd x l n v i)
noncomputable def tr_s_r (x : Bool) (l : List Int) (n : Int) (v : Int) (i : Int) : Option (St ⊕ Ex × St) :=
  bK (decide (i < n)) (oK (elemAt false [Lf.fi IntKind.u8] (List.map (mkV false [Lf.fi IntKind.u8]) l) i) fun (d0 : Int) => some (Sum.inl { fr := [(0, AV.slc x (List.map (mkV false [Lf.fi IntKind.u8]) l)), (1, AV.int IntKind.i64 n), (6, AV.int IntKind.i64 (IntKind.i64.wrap (IntKind.i64.wrap (v * 256) + IntKind.i64.wrap d0))), (7, AV.int IntKind.i64 (IntKind.i64.wrap (i + 1)))], bs := [], df := [] })) (some (Sum.inr (Ex.exit 0, { fr := [(6, AV.int IntKind.i64 v)], bs := [], df := [] })))
theorem tr_s_w (x : Bool) (l : List Int) (n : Int) (v : Int) (i : Int) : tr_s x l n v i = tr_s_r x l n v i := by kernel_rfl

theorem or_add {v x : Int} (h1 : 0 ≤ v) (h2 : v < 281474976710656) (h3 : 0 ≤ x) (h4 : x < 256) :
    IntKind.i64.wrap ((BitVec.ofInt 64 (IntKind.i64.wrap (v * 256)) ||| BitVec.ofInt 64 (IntKind.i64.wrap x)).toNat : Int) = v * 256 + x := by
  rw [w64 (n := v * 256) (by omega) (by omega), w64 (n := x) (by omega) (by omega)]
  obtain ⟨m, rfl⟩ := Int.eq_ofNat_of_zero_le h1
  obtain ⟨k, rfl⟩ := Int.eq_ofNat_of_zero_le h3
  have e : ((m : Int) * 256) = ((m * 256 : Nat) : Int) := by omega
  have e3 : m * 256 ||| k = m * 256 + k := by
    have := Nat.shiftLeft_add_eq_or_of_lt (i := 8) (b := k) (by omega) m
    rw [Nat.shiftLeft_eq] at this
    exact this.symm
  have e2 : (BitVec.ofInt 64 ((m * 256 : Nat) : Int) ||| BitVec.ofInt 64 (k : Int)).toNat = m * 256 + k := by
    rw [BitVec.toNat_or, BitVec.ofInt_natCast, BitVec.ofInt_natCast, BitVec.toNat_ofNat, BitVec.toNat_ofNat, Nat.mod_eq_of_lt (by omega), Nat.mod_eq_of_lt (by omega), e3]
  rw [e, e2, w64 (by omega) (by omega)]
  omega
/-- The number that bytes are. -/
def takeV : Int → List Int → Int
  | v, [] => v
  | v, x :: r => takeV (v * 256 + x) r
def byt (l : List Int) : Prop := ∀ v ∈ l, (0 : Int) ≤ v ∧ v < 256
theorem pw_le {i : Nat} (h : i ≤ 6) : ((256 : Int) ^ i) ≤ 281474976710656 := by
  have : i = 0 ∨ i = 1 ∨ i = 2 ∨ i = 3 ∨ i = 4 ∨ i = 5 ∨ i = 6 := by omega
  rcases this with rfl | rfl | rfl | rfl | rfl | rfl | rfl <;> decide
theorem loops7 : (loopsOf 0 (codeOf Try.prog 48)).map (·.1) = [0] := by kernel_rfl
theorem one7 : OneLoops Try.prog 48 := by unfold OneLoops; rw [loops7]; decide
theorem at7 : At 0 (codeOf Try.prog 48) 0 (.loop (bodyAt Try.prog 48 0)) := at_body one7 (by rw [loops7]; decide)
theorem loops8 : (loopsOf 0 (codeOf Try.prog 34)).map (·.1) = [0] := by kernel_rfl
theorem one8 : OneLoops Try.prog 34 := by unfold OneLoops; rw [loops8]; decide
theorem at8 : At 0 (codeOf Try.prog 34) 0 (.loop (bodyAt Try.prog 34 0)) := at_body one8 (by rw [loops8]; decide)
def tkEnd (v : Int) : St := { fr := [(4, .int .i64 v), (5, .ptr 80 0 0 0)], bs := [(80, boxB [.bool false])], df := [(.fn 56 [] [], [.ptr 80 0 0 0])] }
theorem tk_run (x : Bool) (l : List Int) (hl : l.length ≤ 7) (hb : byt l) : ∀ (j i : Nat), i + j = l.length → ∀ v : Int, 0 ≤ v → v < 256 ^ i → ∀ (m : Nat), j < m →
    Runs' Try.prog cfg PK3 48 0 m (tkHd x l v i) (.exit 0, tkEnd (takeV v (l.drop i)))
  | 0, i, hi, v, h0, h1, m + 1, hm => by
    rw [List.drop_of_length_le (by omega)]
    refine Runs'.done (lp := LP0) LPok.none at7 ((tk_s_w x l v i).trans ?_)
    unfold tk_s_r
    rw [bK_neg (by simp; omega)]
    rfl
  | j + 1, i, hi, v, h0, h1, m + 1, hm => by
    have hi' : (i : Int).toNat < l.length := by omega
    have e : l.drop i = l[i] :: l.drop (i + 1) := List.drop_eq_getElem_cons (by omega)
    have hg : l.getD (i : Int).toNat (0 : Int) = l[i] := by rw [getD_at hi']; simp
    have hx := hb l[i] (List.getElem_mem _)
    have hv : v < 281474976710656 := Int.lt_of_lt_of_le h1 (pw_le (by omega))
    rw [e]
    refine Runs'.step (lp := LP0) LPok.none at7 ((tk_s_w x l v i).trans ?_) (tk_run x l hl hb j (i + 1) (by omega) (v * 256 + l[i]) (by omega) (by rw [Int.pow_succ]; omega) m (by omega))
    unfold tk_s_r
    rw [bK_pos (by simp; omega)]
    refine (oK_atD (fs := [.fi .u8]) (agg := false) rfl (0 : Int) (by omega) hi').trans ?_
    rw [hg, or_add h0 hv hx.1 hx.2, w64 (n := (i : Int) + 1) (by omega) (by omega)]
    rfl
def trEnd (v : Int) : St := { fr := [(6, .int .i64 v)], bs := [], df := [] }
theorem tr_run (x : Bool) (l : List Int) (n : Nat) (hn : n ≤ 7) (hnl : n ≤ l.length) (hb : byt l) : ∀ (j i : Nat), i + j = n → ∀ v : Int, 0 ≤ v → v < 256 ^ i → ∀ (m : Nat), j < m →
    Runs' Try.prog cfg PK3 34 0 m (trHd x l n v i) (.exit 0, trEnd (takeV v ((l.take n).drop i)))
  | 0, i, hi, v, h0, h1, m + 1, hm => by
    rw [List.drop_of_length_le (by simp; omega)]
    refine Runs'.done (lp := LP0) LPok.none at8 ((tr_s_w x l n v i).trans ?_)
    unfold tr_s_r
    rw [bK_neg (by simp; omega)]
    rfl
  | j + 1, i, hi, v, h0, h1, m + 1, hm => by
    have hi' : (i : Int).toNat < l.length := by omega
    have hlt : i < (l.take n).length := by rw [List.length_take]; omega
    have e : (l.take n).drop i = l[i]'(by omega) :: (l.take n).drop (i + 1) := by
      rw [List.drop_eq_getElem_cons hlt, List.getElem_take]
    have hg : l.getD (i : Int).toNat (0 : Int) = l[i]'(by omega) := by rw [getD_at hi']; simp
    have hx := hb (l[i]'(by omega)) (List.getElem_mem _)
    have hv : v < 281474976710656 := Int.lt_of_lt_of_le h1 (pw_le (by omega))
    rw [e]
    refine Runs'.step (lp := LP0) LPok.none at8 ((tr_s_w x l n v i).trans ?_) (tr_run x l n hn hnl hb j (i + 1) (by omega) (v * 256 + l[i]'(by omega)) (by omega) (by rw [Int.pow_succ]; omega) m (by omega))
    unfold tr_s_r
    rw [bK_pos (by exact decide_eq_true (by omega))]
    refine (oK_atD (fs := [.fi .u8]) (agg := false) rfl (0 : Int) (by omega) hi').trans ?_
    rw [hg, w64 (n := v * 256) (by omega) (by omega), w64 (n := l[i]'(by omega)) (by omega) (by omega), w64 (n := v * 256 + l[i]'(by omega)) (by omega) (by omega), w64 (n := (i : Int) + 1) (by omega) (by omega)]
    rfl
/-- The number that bytes are. -/
def tkF (l : List Int) : Int := takeV 0 l
abbrev TkD : Type := Bool × List Int
def tkH (d : TkD) : St := tkHd d.1 d.2 0 0
noncomputable def tkL : LP := LP.of (D := TkD) tkH (fun d => d.2.length ≤ 7 ∧ byt d.2) fun d => .leaf (.exit 0, tkEnd (tkF d.2))
noncomputable def LPt : LPs := LPs.add LP0 48 0 tkL
theorem LPt_ok : LPok Try.prog cfg PK3 LPt 48 := LPok.addH LPok.none one7 fun d h => tk_run d.1 d.2 h.1 h.2 d.2.length 0 (by omega) 0 (by omega) (by decide) rounds (by have := h.1; simp only [rounds]; omega)
theorem tkH_inj (d d' : TkD) (h : tkH d = tkH d') : d = d' := by
  obtain ⟨x, l⟩ := d
  obtain ⟨x', l'⟩ := d'
  simp only [tkH, tkHd, boxB, St.mk.injEq, List.cons.injEq, Prod.mk.injEq, AV.slc.injEq, and_true, true_and] at h
  obtain ⟨⟨h1, h2⟩, _⟩ := h
  rw [h1, map_inj (fs := [.fi .u8]) (agg := false) rfl h2]
abbrev TrD : Type := Bool × List Int × Int
def trH (d : TrD) : St := trHd d.1 d.2.1 d.2.2 0 0
noncomputable def trL : LP := LP.of (D := TrD) trH (fun d => 0 ≤ d.2.2 ∧ d.2.2 ≤ 7 ∧ d.2.2 ≤ (d.2.1.length : Int) ∧ byt d.2.1) fun d => .leaf (.exit 0, trEnd (tkF (d.2.1.take d.2.2.toNat)))
noncomputable def LPr : LPs := LPs.add LP0 34 0 trL
theorem LPr_ok : LPok Try.prog cfg PK3 LPr 34 := LPok.addH LPok.none one8 (by
  rintro ⟨x, l, n⟩ ⟨h1, h2, h3, h4⟩
  simp only at h1 h2 h3 h4
  obtain ⟨k, rfl⟩ := Int.eq_ofNat_of_zero_le h1
  exact tr_run x l k (by omega) (by omega) h4 k 0 (by omega) 0 (by omega) (by decide) rounds (by simp only [rounds]; omega))
theorem trH_inj (d d' : TrD) (h : trH d = trH d') : d = d' := by
  obtain ⟨x, l, n⟩ := d
  obtain ⟨x', l', n'⟩ := d'
  simp only [trH, trHd, St.mk.injEq, List.cons.injEq, Prod.mk.injEq, AV.slc.injEq, AV.int.injEq, and_true, true_and] at h
  obtain ⟨⟨h1, h2⟩, h3⟩ := h
  rw [h1, map_inj (fs := [.fi .u8]) (agg := false) rfl h2, h3]
abbrev takeB_id : Nat := 48
abbrev takeB_sh : Shp := [none, none]
abbrev takeB_fs : List Lf := [.fl false [.fi .u8], .fi .i64]
abbrev takeB_rsh : Shp := [none, none]
abbrev takeB_rfs : List Lf := [.fi .i64, .fb]
noncomputable def takeB_r (b_x : Bool) (b : List Int) (n : Int) : Option Ret :=
  bK (decide (n < 1)) (some { pan := false, res := AV.tup [AV.int IntKind.i64 0, AV.bool false], out := [], new := [] }) (bK (decide (7 < n)) (some { pan := false, res := AV.tup [AV.int IntKind.i64 0, AV.bool false], out := [], new := [] }) (bK (decide ((↑(List.map (mkV false [Lf.fi IntKind.u8]) b).length : Int) < n)) (some { pan := false, res := AV.tup [AV.int IntKind.i64 0, AV.bool false], out := [], new := [] }) (bK ((List.map (mkV false [Lf.fi IntKind.u8]) b).all fun (y : AV) => decide (y.cells.length = 1)) (bK (decide (0 ≤ n)) (bK (decide (0 ≤ n.toNat ∧ n.toNat ≤ (List.map (mkV false [Lf.fi IntKind.u8]) b).length)) (oK (tkL.dec { fr := [(4, AV.int IntKind.i64 0), (5, AV.ptr 80 0 0 0), (16, AV.slc (b_x && decide (n.toNat = (List.map (mkV false [Lf.fi IntKind.u8]) b).length)) (List.take (n.toNat - 0) (List.drop 0 (List.map (mkV false [Lf.fi IntKind.u8]) b)))), (17, AV.int IntKind.i64 (↑(List.take (n.toNat - 0) (List.drop 0 (List.map (mkV false [Lf.fi IntKind.u8]) b))).length : Int)), (18, AV.int IntKind.i64 0)], bs := [(80, { v := 0, k := BK.box, fz := false, sz := 0, es := [AV.bool false] })], df := [(AV.fn 56 [] [], [AV.ptr 80 0 0 0])] }) fun (d0 : Bool × List Int) => some { pan := false, res := AV.tup [AV.int IntKind.i64 (tkF d0.snd), AV.bool true], out := [], new := [] }) none) none) none)))
theorem takeB_w (b_x : Bool) (b : List Int) (n : Int) : unitQ Try.prog cfg PK3 LPt false 48 (groupA takeB_sh (Tu.mk takeB_fs ((b_x, b), n))) [] = takeB_r b_x b n := by kernel_rfl

abbrev takeR_id : Nat := 34
abbrev takeR_sh : Shp := [none, none]
abbrev takeR_fs : List Lf := [.fl false [.fi .u8], .fi .i64]
abbrev takeR_rsh : Shp := [none, none]
abbrev takeR_rfs : List Lf := [.fi .i64, .fb]
noncomputable def takeR_r (b_x : Bool) (b : List Int) (n : Int) : Option Ret :=
  bK (decide (n < 1)) (some { pan := false, res := AV.tup [AV.int IntKind.i64 0, AV.bool false], out := [], new := [] }) (bK (decide (7 < n)) (some { pan := false, res := AV.tup [AV.int IntKind.i64 0, AV.bool false], out := [], new := [] }) (bK (decide ((↑(List.map (mkV false [Lf.fi IntKind.u8]) b).length : Int) < n)) (some { pan := false, res := AV.tup [AV.int IntKind.i64 0, AV.bool false], out := [], new := [] }) (oK (trL.dec { fr := [(0, AV.slc b_x (List.map (mkV false [Lf.fi IntKind.u8]) b)), (1, AV.int IntKind.i64 n), (6, AV.int IntKind.i64 0), (7, AV.int IntKind.i64 0)], bs := [], df := [] }) fun (d0 : Bool × List Int × Int) => some { pan := false, res := AV.tup [AV.int IntKind.i64 (tkF (List.take d0.snd.snd.toNat d0.snd.fst)), AV.bool true], out := [], new := [] })))
theorem takeR_w (b_x : Bool) (b : List Int) (n : Int) : unitQ Try.prog cfg PK3 LPr false 34 (groupA takeR_sh (Tu.mk takeR_fs ((b_x, b), n))) [] = takeR_r b_x b n := by kernel_rfl

/-- The number that bytes begin with. -/
def takeL (b : List Int) (n : Int) : Int × Bool := if 1 ≤ n ∧ n ≤ 7 ∧ n ≤ (b.length : Int) then (tkF (b.take n.toNat), true) else (0, false)
theorem takeL_no {b : List Int} {n : Int} (h : ¬ (1 ≤ n ∧ n ≤ 7 ∧ n ≤ (b.length : Int))) : takeL b n = (0, false) := if_neg h
theorem takeL_yes {b : List Int} {n : Int} (h : 1 ≤ n ∧ n ≤ 7 ∧ n ≤ (b.length : Int)) : takeL b n = (tkF (b.take n.toNat), true) := if_pos h
theorem byt_take {b : List Int} (h : byt b) (k : Nat) : byt (b.take k) := fun v hv => h v (List.mem_of_mem_take hv)
theorem allB (b : List Int) : ((List.map (mkV false [Lf.fi IntKind.u8]) b).all fun (y : AV) => decide (y.cells.length = 1)) = true := by simp [AV.cells, mkV, mkA, Tu.mk, Lf.mk]
/-- The number that bytes begin with. -/
def takeF (d : (Bool × List Int) × Int) : Int × Bool := takeL d.1.2 d.2
noncomputable def takeBS : FS := ⟨takeB_sh, takeB_fs, takeB_rsh, takeB_rfs, fun d => byt d.1.2, fun d => takeF d, none⟩
theorem takeB_v (b_x : Bool) (b : List Int) (n : Int) (h : takeBS.pre ((b_x, b), n)) : takeB_r b_x b n = some (takeBS.ret ((b_x, b), n)) := by
  have h' : byt b := h
  show _ = some (takeBS.out (takeL b n))
  unfold takeB_r
  simp only [List.length_map]
  refine bK_i (fun c1 => by rw [takeL_no (by omega)]; rfl) (fun c1 => ?_)
  refine bK_i (fun c2 => by rw [takeL_no (by omega)]; rfl) (fun c2 => ?_)
  refine bK_i (fun c3 => by rw [takeL_no (by omega)]; rfl) (fun c3 => ?_)
  rw [takeL_yes (by omega), bK_pos (allB b), bK_pos (by exact decide_eq_true (by omega)), bK_pos (by exact decide_eq_true (by omega))]
  rw [Nat.sub_zero, List.drop_zero, ← List.map_take]
  exact oK_lpq (Q := fun z => z = _) tkH_inj ((b_x && decide (n.toNat = b.length)), b.take n.toNat) ⟨by rw [List.length_take]; omega, byt_take h' _⟩ rfl
theorem takeB_ok : ∀ (d : Tu takeB_fs), takeBS.pre d → unitQ Try.prog cfg PK3 LPt false 48 (takeBS.args d) [] = some (takeBS.ret d)
  | ((b_x, b), n), h => (takeB_w b_x b n).trans (takeB_v b_x b n h)
noncomputable def PK4 : PKs := PK3.add 48 takeBS.pk
theorem PK4_ok : PKsOk Try.prog PK4 := PKsOk.fs (cfg := cfg) PK3_ok (fnOk PK3_ok 21) 48 rfl LPt LPt_ok.loops takeBS takeB_ok

noncomputable def takeRS : FS := ⟨takeR_sh, takeR_fs, takeR_rsh, takeR_rfs, fun d => byt d.1.2, fun d => takeF d, none⟩
theorem takeR_v (b_x : Bool) (b : List Int) (n : Int) (h : takeRS.pre ((b_x, b), n)) : takeR_r b_x b n = some (takeRS.ret ((b_x, b), n)) := by
  have h' : byt b := h
  show _ = some (takeRS.out (takeL b n))
  unfold takeR_r
  simp only [List.length_map]
  refine bK_i (fun c1 => by rw [takeL_no (by omega)]; rfl) (fun c1 => ?_)
  refine bK_i (fun c2 => by rw [takeL_no (by omega)]; rfl) (fun c2 => ?_)
  refine bK_i (fun c3 => by rw [takeL_no (by omega)]; rfl) (fun c3 => ?_)
  rw [takeL_yes (by omega)]
  exact oK_lpq (Q := fun z => z = _) trH_inj (b_x, b, n) ⟨by show (0 : Int) ≤ n; omega, by show n ≤ 7; omega, by show n ≤ (b.length : Int); omega, h'⟩ rfl
theorem takeR_ok : ∀ (d : Tu takeR_fs), takeRS.pre d → unitQ Try.prog cfg PK3 LPr false 34 (takeRS.args d) [] = some (takeRS.ret d)
  | ((b_x, b), n), h => (takeR_w b_x b n).trans (takeR_v b_x b n h)
noncomputable def PKr8 : PKs := PK3.add 34 takeRS.pk
theorem PKr8_ok : PKsOk Try.prog PKr8 := PKsOk.fs (cfg := cfg) PK3_ok (fnOk PK3_ok 21) 34 rfl LPr LPr_ok.loops takeRS takeR_ok

noncomputable def PK5 : PKs := PK4.add 34 takeRS.pk
theorem PK5_ok : PKsOk Try.prog PK5 := PKsOk.take PK4_ok PKr8_ok rfl
theorem bytes_mk : ∀ l : List Int, bytesOf? (l.map (mkV false [.fi .u8])) = some (l.map fun n => UInt8.ofNat n.toNat)
  | [] => rfl
  | a :: l => by
    show (match bytesOf? (l.map (mkV false [.fi .u8])) with
      | some m => some (UInt8.ofNat a.toNat :: m)
      | none => none) = _
    rw [bytes_mk l]; rfl
/-- The text that bytes begin with. -/
def ttL (b : List Int) : List UInt8 × Int × Bool := if 1 ≤ b.length ∧ b.getD 0 0 + 1 ≤ (b.length : Int) then (((b.drop 1).take (b.getD 0 0).toNat).map fun n => UInt8.ofNat n.toNat, b.getD 0 0 + 1, true) else ([], 0, false)
theorem ttL_no {b : List Int} (h : ¬ (1 ≤ b.length ∧ b.getD 0 0 + 1 ≤ (b.length : Int))) : ttL b = ([], 0, false) := if_neg h
theorem ttL_yes {b : List Int} (h : 1 ≤ b.length ∧ b.getD 0 0 + 1 ≤ (b.length : Int)) : ttL b = (((b.drop 1).take (b.getD 0 0).toNat).map fun n => UInt8.ofNat n.toNat, b.getD 0 0 + 1, true) := if_pos h
theorem byt_get {b : List Int} (h : byt b) : 0 ≤ b.getD 0 0 ∧ b.getD 0 0 < 256 := by
  cases b with
  | nil => decide
  | cons a l => exact h a (by simp)
/-- The text that bytes begin with. -/
def ttF (d : Bool × List Int) : List UInt8 × Int × Bool := ttL d.2
abbrev takeT_id : Nat := 58
abbrev takeT_sh : Shp := [none]
abbrev takeT_fs : List Lf := [.fl false [.fi .u8]]
abbrev takeT_rsh : Shp := [none, none, none]
abbrev takeT_rfs : List Lf := [.fs, .fi .i64, .fb]
noncomputable def takeT_r (b_x : Bool) (b : List Int) : Option Ret :=
  bK (decide ((↑(List.map (mkV false [Lf.fi IntKind.u8]) b).length : Int) < 1)) (some { pan := false, res := AV.tup [AV.str [], AV.int IntKind.i64 0, AV.bool false], out := [], new := [] }) (bK ((List.map (mkV false [Lf.fi IntKind.u8]) b).all fun (y : AV) => decide (y.cells.length = 1)) (bK (decide (0 ≤ 1 ∧ 1 ≤ (List.map (mkV false [Lf.fi IntKind.u8]) b).length)) (oK (elemAt false [Lf.fi IntKind.u8] (List.take 1 (List.drop 0 (List.map (mkV false [Lf.fi IntKind.u8]) b))) 0) fun (d0 : Int) => bK (decide ((↑(List.map (mkV false [Lf.fi IntKind.u8]) b).length : Int) < IntKind.i64.wrap (IntKind.i64.wrap d0 + 1))) (some { pan := false, res := AV.tup [AV.str [], AV.int IntKind.i64 0, AV.bool false], out := [], new := [] }) (bK ((List.map (mkV false [Lf.fi IntKind.u8]) b).all fun (y : AV) => decide (y.cells.length = 1)) (bK (decide (0 ≤ IntKind.i64.wrap (IntKind.i64.wrap d0 + 1))) (bK (decide (1 ≤ (IntKind.i64.wrap (IntKind.i64.wrap d0 + 1)).toNat ∧ (IntKind.i64.wrap (IntKind.i64.wrap d0 + 1)).toNat ≤ (List.map (mkV false [Lf.fi IntKind.u8]) b).length)) (oK (bytesOf? (List.take ((IntKind.i64.wrap (IntKind.i64.wrap d0 + 1)).toNat - 1) (List.drop 1 (List.map (mkV false [Lf.fi IntKind.u8]) b)))) fun (d1 : List UInt8) => some { pan := false, res := AV.tup [AV.str d1, AV.int IntKind.i64 (IntKind.i64.wrap (IntKind.i64.wrap d0 + 1)), AV.bool true], out := [], new := [] }) none) none) none)) none) none)
theorem takeT_w (b_x : Bool) (b : List Int) : unitQ Try.prog cfg PK5 LP0 false 58 (groupA takeT_sh (Tu.mk takeT_fs (b_x, b))) [] = takeT_r b_x b := by kernel_rfl

noncomputable def takeTS : FS := ⟨takeT_sh, takeT_fs, takeT_rsh, takeT_rfs, fun d => byt d.2, fun d => ttF d, none⟩
theorem takeT_v (b_x : Bool) (b : List Int) (h : takeTS.pre (b_x, b)) : takeT_r b_x b = some (takeTS.ret (b_x, b)) := by
  have h' : byt b := h
  have hg := byt_get h'
  show _ = some (takeTS.out (ttL b))
  unfold takeT_r
  simp only [List.length_map]
  refine bK_i (fun c1 => by rw [ttL_no (by omega)]; rfl) (fun c1 => ?_)
  rw [bK_pos (allB b), bK_pos (by exact decide_eq_true (by omega))]
  rw [List.drop_zero, ← List.map_take]
  refine (oK_atD (fs := [.fi .u8]) (agg := false) rfl (0 : Int) (by omega) (by simp; omega)).trans ?_
  have e0 : (List.take 1 b).getD (0 : Int).toNat (0 : Int) = b.getD 0 0 := by
    cases b with
    | nil => rfl
    | cons a l => rfl
  rw [e0]
  generalize hz : b.getD 0 0 = z at hg
  rw [w64 (n := z) (by omega) (by omega), w64 (n := z + 1) (by omega) (by omega)]
  refine bK_i (fun c2 => by rw [ttL_no (by rw [hz]; omega)]; rfl) (fun c2 => ?_)
  rw [bK_pos (allB b), bK_pos (by exact decide_eq_true (by omega)), bK_pos (by exact decide_eq_true (by omega))]
  rw [show (z + 1).toNat - 1 = z.toNat by omega, ← List.map_drop, ← List.map_take]
  refine (oK_pos (bytes_mk _)).trans ?_
  rw [ttL_yes (by rw [hz]; omega), hz]
  rfl
theorem takeT_ok : ∀ (d : Tu takeT_fs), takeTS.pre d → unitQ Try.prog cfg PK5 LP0 false 58 (takeTS.args d) [] = some (takeTS.ret d)
  | (b_x, b), h => (takeT_w b_x b).trans (takeT_v b_x b h)
noncomputable def PK6 : PKs := PK5.add 58 takeTS.pk
theorem PK6_ok : PKsOk Try.prog PK6 := PKsOk.fs (cfg := cfg) PK5_ok (fnOk PK5_ok 21) 58 rfl LP0 fLoops_none takeTS takeT_ok

abbrev takeTR_id : Nat := 35
abbrev takeTR_sh : Shp := [none]
abbrev takeTR_fs : List Lf := [.fl false [.fi .u8]]
abbrev takeTR_rsh : Shp := [none, none, none]
abbrev takeTR_rfs : List Lf := [.fs, .fi .i64, .fb]
noncomputable def takeTR_r (b_x : Bool) (b : List Int) : Option Ret :=
  bK (decide ((↑(List.map (mkV false [Lf.fi IntKind.u8]) b).length : Int) < 1)) (some { pan := false, res := AV.tup [AV.str [], AV.int IntKind.i64 0, AV.bool false], out := [], new := [] }) (oK (elemAt false [Lf.fi IntKind.u8] (List.map (mkV false [Lf.fi IntKind.u8]) b) 0) fun (d0 : Int) => bK (decide (IntKind.i64.wrap ((↑(List.map (mkV false [Lf.fi IntKind.u8]) b).length : Int) - 1) < IntKind.i64.wrap d0)) (some { pan := false, res := AV.tup [AV.str [], AV.int IntKind.i64 0, AV.bool false], out := [], new := [] }) (oK (elemAt false [Lf.fi IntKind.u8] (List.map (mkV false [Lf.fi IntKind.u8]) b) 0) fun (d1 : Int) => bK ((List.map (mkV false [Lf.fi IntKind.u8]) b).all fun (y : AV) => decide (y.cells.length = 1)) (bK (decide (0 ≤ IntKind.i64.wrap (IntKind.i64.wrap d1 + 1))) (bK (decide (1 ≤ (IntKind.i64.wrap (IntKind.i64.wrap d1 + 1)).toNat ∧ (IntKind.i64.wrap (IntKind.i64.wrap d1 + 1)).toNat ≤ (List.map (mkV false [Lf.fi IntKind.u8]) b).length)) (oK (bytesOf? (List.take ((IntKind.i64.wrap (IntKind.i64.wrap d1 + 1)).toNat - 1) (List.drop 1 (List.map (mkV false [Lf.fi IntKind.u8]) b)))) fun (d2 : List UInt8) => some { pan := false, res := AV.tup [AV.str d2, AV.int IntKind.i64 (IntKind.i64.wrap (IntKind.i64.wrap d1 + 1)), AV.bool true], out := [], new := [] }) none) none) none))
theorem takeTR_w (b_x : Bool) (b : List Int) : unitQ Try.prog cfg PK6 LP0 false 35 (groupA takeTR_sh (Tu.mk takeTR_fs (b_x, b))) [] = takeTR_r b_x b := by kernel_rfl

noncomputable def takeTRS : FS := ⟨takeTR_sh, takeTR_fs, takeTR_rsh, takeTR_rfs, fun d => byt d.2 ∧ d.2.length ≤ 100000, fun d => ttF d, none⟩
theorem takeTR_v (b_x : Bool) (b : List Int) (h : takeTRS.pre (b_x, b)) : takeTR_r b_x b = some (takeTRS.ret (b_x, b)) := by
  have h' : byt b := h.1
  have hl : b.length ≤ 100000 := h.2
  have hg := byt_get h'
  show _ = some (takeTRS.out (ttL b))
  unfold takeTR_r
  simp only [List.length_map]
  refine bK_i (fun c1 => by rw [ttL_no (by omega)]; rfl) (fun c1 => ?_)
  refine (oK_atD (fs := [.fi .u8]) (agg := false) rfl (0 : Int) (by omega) (by simp; omega)).trans ?_
  have e0 : b.getD (0 : Int).toNat (0 : Int) = b.getD 0 0 := rfl
  rw [e0]
  generalize hz : b.getD 0 0 = z at hg
  rw [w64 (n := z) (by omega) (by omega), w64 (n := (b.length : Int) - 1) (by omega) (by omega)]
  refine bK_i (fun c2 => by rw [ttL_no (by rw [hz]; omega)]; rfl) (fun c2 => ?_)
  refine (oK_atD (fs := [.fi .u8]) (agg := false) rfl (0 : Int) (by omega) (by simp; omega)).trans ?_
  rw [e0, hz]
  rw [w64 (n := z) (by omega) (by omega), w64 (n := z + 1) (by omega) (by omega)]
  rw [bK_pos (allB b), bK_pos (by exact decide_eq_true (by omega)), bK_pos (by exact decide_eq_true (by omega))]
  rw [show (z + 1).toNat - 1 = z.toNat by omega, ← List.map_drop, ← List.map_take]
  refine (oK_pos (bytes_mk _)).trans ?_
  rw [ttL_yes (by rw [hz]; omega), hz]
  rfl
theorem takeTR_ok : ∀ (d : Tu takeTR_fs), takeTRS.pre d → unitQ Try.prog cfg PK6 LP0 false 35 (takeTRS.args d) [] = some (takeTRS.ret d)
  | (b_x, b), h => (takeTR_w b_x b).trans (takeTR_v b_x b h)
noncomputable def PK7 : PKs := PK6.add 35 takeTRS.pk
theorem PK7_ok : PKsOk Try.prog PK7 := PKsOk.fs (cfg := cfg) PK6_ok (fnOk PK6_ok 21) 35 rfl LP0 fLoops_none takeTRS takeTR_ok

end Go.Proofs.Ytmjgiplgghmapaa
