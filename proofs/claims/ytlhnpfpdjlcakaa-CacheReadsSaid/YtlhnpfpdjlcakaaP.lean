/- A part of the proof: contracts of functions. -/
import Derived.Test.YtlhnpfpdjlcakaaF
import Derived.Test.YtlhnpfpdjlcakaaAbCl

set_option linter.unusedVariables false
set_option linter.unusedSimpArgs false
set_option maxRecDepth 100000
namespace Go.Proofs.Ytlhnpfpdjlcakaa
open Go Go.Ab
abbrev begun_id : Nat := 8
abbrev begun_sh : Shp := []
abbrev begun_fs : List Lf := []
abbrev begun_rsh : Shp := [none]
abbrev begun_rfs : List Lf := [.fb]
noncomputable def begun_r  : Option Ret :=
  some { pan := false, res := AV.bool true, out := [], new := [] }
theorem begun_w  : unitQ Try.prog cfg PKs0 LP0 false 8 (groupA begun_sh (Tu.mk begun_fs ())) [] = begun_r  := by kernel_rfl

def begunS : FS := ⟨begun_sh, begun_fs, begun_rsh, begun_rfs, fun _ => True, fun _ => true, none⟩
theorem begun_v (h : True) : begun_r = some (begunS.ret ()) := rfl
theorem begun_ok : ∀ (d : Tu begun_fs), begunS.pre d → unitQ Try.prog cfg PKs0 LP0 false 8 (begunS.args d) [] = some (begunS.ret d)
  | (), h => (begun_w ).trans (begun_v  h)
noncomputable def PKcb : PKs := PKs0.add 8 begunS.pk
theorem PKcb_ok : PKsOk Try.prog PKcb := PKsOk.fs (cfg := cfg) PKs0_ok (fnOk PKs0_ok 21) 8 rfl LP0 fLoops_none begunS begun_ok

noncomputable def PKz : PKs := fun _ => none
theorem PKz_ok : PKsOk Try.prog PKz := PKsOk.none
noncomputable def PK0 : PKs := PKz.add 8 begunS.pk
theorem PK0_ok : PKsOk Try.prog PK0 := PKsOk.take PKz_ok PKcb_ok rfl
abbrev num_id : Nat := 30
abbrev num_sh : Shp := [none]
abbrev num_fs : List Lf := [.fi .i64]
abbrev num_bs : List Lf := [.fl false [.fi .u8], .fi .i64]
abbrev num_rsh : Shp := [none]
abbrev num_rfs : List Lf := [.fi .i64]
noncomputable def num_r (p_l_x : Bool) (p_l : List Int) (p_n : Int) (m : Int) : Option Ret :=
  bK (decide ((↑(List.map (mkV false [Lf.fi IntKind.u8]) p_l).length : Int) ≤ p_n)) (some { pan := false, res := AV.int IntKind.i64 0, out := [{ v := 0, k := BK.box, fz := false, sz := 0, es := [AV.slc p_l_x (List.map (mkV false [Lf.fi IntKind.u8]) p_l), AV.int IntKind.i64 p_n] }], new := [] }) (bK (decide (m < 1)) (some { pan := false, res := AV.int IntKind.i64 0, out := [{ v := 0, k := BK.box, fz := false, sz := 0, es := [AV.slc p_l_x (List.map (mkV false [Lf.fi IntKind.u8]) p_l), AV.int IntKind.i64 p_n] }], new := [] }) (oK (elemAt false [Lf.fi IntKind.u8] (List.map (mkV false [Lf.fi IntKind.u8]) p_l) (IntKind.i64.wrap (IntKind.i64.wrap (p_n + 1) - 1))) fun (d0 : Int) => bK (decide (m = 0)) none (some { pan := false, res := AV.int IntKind.i64 ((IntKind.i64.wrap d0).tmod m), out := [{ v := 0, k := BK.box, fz := false, sz := 0, es := [AV.slc p_l_x (List.map (mkV false [Lf.fi IntKind.u8]) p_l), AV.int IntKind.i64 (IntKind.i64.wrap (p_n + 1))] }], new := [] })))
theorem num_w (p_l_x : Bool) (p_l : List Int) (p_n : Int) (m : Int) : unitQ Try.prog cfg PK0 LP0 false 30 (.ptr outBase 0 0 0 :: groupA num_sh (Tu.mk num_fs m)) [boxB (Tu.mk num_bs ((p_l_x, p_l), p_n))] = num_r p_l_x p_l p_n m := by kernel_rfl

/-- The next choice. -/
def numF (b : Picks_T) (m : Int) : Picks_T × Int := if (b.1.2.length : Int) ≤ b.2 ∨ m < 1 then (b, 0) else ((b.1, b.2 + 1), (b.1.2.getD b.2.toNat 0).tmod m)
/-- Bytes. -/
def pkOk (b : Picks_T) : Prop := 0 ≤ b.2 ∧ b.2 ≤ 2 ^ 62 ∧ b.1.2.length ≤ 2 ^ 62 ∧ ∀ v ∈ b.1.2, 0 ≤ v ∧ v < 256
def numS : MS := ⟨num_bs, num_sh, num_fs, num_rsh, num_rfs, fun b _ => pkOk b, numF, none⟩
theorem getD_mem {l : List Int} {i : Nat} (h : ∀ v ∈ l, 0 ≤ v ∧ v < 256) : 0 ≤ l.getD i 0 ∧ l.getD i 0 < 256 := by
  by_cases hi : i < l.length
  · rw [getD_at hi]; exact h _ (List.getElem_mem hi)
  · simp [List.getD, List.getElem?_eq_none (show l.length ≤ i by omega)]
theorem numF_ok {b : Picks_T} {m : Int} (h : pkOk b) : pkOk (numF b m).1 := by
  unfold numF
  split
  · exact h
  · obtain ⟨h1, h2, h3, h4⟩ := h
    refine ⟨?_, ?_, h3, h4⟩
    · show 0 ≤ b.2 + 1
      omega
    · show b.2 + 1 ≤ 2 ^ 62
      omega
theorem numF_lt {b : Picks_T} {m : Int} (h : pkOk b) (hm : 1 ≤ m) : 0 ≤ (numF b m).2 ∧ (numF b m).2 < m := by
  unfold numF
  split
  · exact ⟨Int.le_refl _, by show (0 : Int) < m; omega⟩
  · obtain ⟨h1, h2, h3, h4⟩ := h
    have := getD_mem (i := b.2.toNat) h4
    exact ⟨Int.tmod_nonneg _ this.1, Int.tmod_lt_of_pos _ (by omega)⟩
theorem num_v (p_l_x : Bool) (p_l : List Int) (p_n : Int) (m : Int) (h : pkOk ((p_l_x, p_l), p_n)) : num_r p_l_x p_l p_n m = some (numS.ret ((p_l_x, p_l), p_n) m) := by
  obtain ⟨h1, h2, h3, h4⟩ := h
  simp only at h1 h2 h3 h4
  show _ = some (numS.out (numF ((p_l_x, p_l), p_n) m))
  unfold num_r numF
  simp only [List.length_map]
  refine bK_i (fun c1 => ?_) (fun c1 => bK_i (fun c2 => ?_) (fun c2 => ?_))
  · rw [if_pos (.inl c1)]; rfl
  · rw [if_pos (.inr c2)]; rfl
  · rw [if_neg (by intro hh; rcases hh with hh | hh; exact c1 hh; exact c2 hh)]
    have e1 : IntKind.i64.wrap (p_n + 1) = p_n + 1 := w64 (by omega) (by omega)
    have e2 : IntKind.i64.wrap (p_n + 1 - 1) = p_n := by rw [w64 (by omega) (by omega)]; omega
    rw [e1, e2, oK_atD rfl 0 h1 (by omega)]
    have := getD_mem (i := p_n.toNat) h4
    refine bK_i (fun c3 => by omega) (fun _ => ?_)
    rw [w64 (by omega) (by omega)]
    rfl
theorem num_ok : ∀ (b : Tu num_bs) (d : Tu num_fs), numS.pre b d → unitQ Try.prog cfg PK0 LP0 false 30 (numS.args d) (numS.out0 b) = some (numS.ret b d)
  | ((p_l_x, p_l), p_n), m, h => (num_w p_l_x p_l p_n m).trans (num_v p_l_x p_l p_n m h)
noncomputable def PK1 : PKs := PK0.add 30 numS.pk
theorem PK1_ok : PKsOk Try.prog PK1 := PKsOk.ms (cfg := cfg) PK0_ok (fnOk PK0_ok 21) 30 rfl LP0 fLoops_none numS num_ok

abbrev write_id : Nat := 29
abbrev write_sh : Shp := []
abbrev write_fs : List Lf := []
abbrev write_bs : List Lf := [.fl false [.fi .u8], .fi .i64]
abbrev write_rsh : Shp := [some 2]
abbrev write_rfs : List Lf := [.fi .i64, .fs]
noncomputable def write_r (p_l_x : Bool) (p_l : List Int) (p_n : Int) : Option Ret :=
  oK (numS.dec [AV.ptr 1000000 0 0 0, AV.int IntKind.i64 10] [{ v := 0, k := BK.box, fz := false, sz := 0, es := [AV.slc p_l_x (List.map (mkV false [Lf.fi IntKind.u8]) p_l), AV.int IntKind.i64 p_n] }]) fun (d0 : ((Bool × List Int) × Int) × Int) => oK (numS.dec [AV.ptr 1000000 0 0 0, AV.int IntKind.i64 6] [{ v := 0, k := BK.box, fz := false, sz := 0, es := [AV.slc (numF d0.fst d0.snd).fst.fst.fst (List.map (mkV false [Lf.fi IntKind.u8]) (numF d0.fst d0.snd).fst.fst.snd), AV.int IntKind.i64 (numF d0.fst d0.snd).fst.snd] }]) fun (d1 : ((Bool × List Int) × Int) × Int) => bK (decide (0 ≤ (numF d1.fst d1.snd).snd ∧ (numF d1.fst d1.snd).snd < 6)) (oK (ldRow [Lf.fs] [AV.str [120], AV.str [121, 122], AV.str [104, 101, 108, 108, 111], AV.str [48], AV.str [97, 98, 0, 99, 100], AV.str [102, 111, 117, 114, 116, 101, 101, 110, 32, 98, 121, 116, 101, 115]] (0 + Int.toNat (numF d1.fst d1.snd).snd) 0) fun (d2 : List UInt8) => some { pan := false, res := AV.agg [AV.int IntKind.i64 (numF d0.fst d0.snd).snd, AV.str d2], out := [{ v := 0, k := BK.box, fz := false, sz := 0, es := [AV.slc (numF d1.fst d1.snd).fst.fst.fst (List.map (mkV false [Lf.fi IntKind.u8]) (numF d1.fst d1.snd).fst.fst.snd), AV.int IntKind.i64 (numF d1.fst d1.snd).fst.snd] }], new := [] }) none
theorem write_w (p_l_x : Bool) (p_l : List Int) (p_n : Int) : unitQ Try.prog cfg PK1 LP0 false 29 (.ptr outBase 0 0 0 :: groupA write_sh (Tu.mk write_fs ())) [boxB (Tu.mk write_bs ((p_l_x, p_l), p_n))] = write_r p_l_x p_l p_n := by kernel_rfl

/-- The bytes of what is written. -/
def bodiesL : List (List UInt8) := [[120], [121, 122], [104, 101, 108, 108, 111], [48], [97, 98, 0, 99, 100], [102, 111, 117, 114, 116, 101, 101, 110, 32, 98, 121, 116, 101, 115]]
/-- The next write. -/
def writeF (b : Picks_T) : Picks_T × Write_T := let x := numF b 10; let y := numF x.1 6; (y.1, x.2, bodiesL.getD y.2.toNat [])
def writeS : MS := ⟨write_bs, write_sh, write_fs, write_rsh, write_rfs, fun b _ => pkOk b, fun b _ => writeF b, none⟩
theorem writeF_ok {b : Picks_T} (h : pkOk b) : pkOk (writeF b).1 := numF_ok (numF_ok h)
theorem ldRow_strs (l : List (List UInt8)) (i : Nat) (h : i < l.length) : ldRow [Lf.fs] (l.map AV.str) i 0 = some (l.getD i []) := by
  simp [ldRow, h, ldCells, AV.cells, Tu.dec, Lf.dec, List.getD]
theorem write_v (p_l_x : Bool) (p_l : List Int) (p_n : Int) (h : pkOk ((p_l_x, p_l), p_n)) : write_r p_l_x p_l p_n = some (writeS.ret ((p_l_x, p_l), p_n) ()) := by
  unfold write_r
  refine oK_ms numS ((p_l_x, p_l), p_n) (10 : Int) h ?_
  have h1 := numF_ok (m := 10) h
  refine oK_ms numS (numF ((p_l_x, p_l), p_n) 10).1 (6 : Int) h1 ?_
  have h2 := numF_lt (m := 6) h1 (by omega)
  refine bK_i (fun _ => ?_) (fun c => absurd h2 c)
  refine (oK_pos (ldRow_strs bodiesL _ ?_)).trans ?_
  · show _ < 6
    simp only
    omega
  · rw [Nat.zero_add]; rfl
theorem write_ok : ∀ (b : Tu write_bs) (d : Tu write_fs), writeS.pre b d → unitQ Try.prog cfg PK1 LP0 false 29 (writeS.args d) (writeS.out0 b) = some (writeS.ret b d)
  | ((p_l_x, p_l), p_n), (), h => (write_w p_l_x p_l p_n).trans (write_v p_l_x p_l p_n h)
noncomputable def PK2 : PKs := PK1.add 29 writeS.pk
theorem PK2_ok : PKsOk Try.prog PK2 := PKsOk.ms (cfg := cfg) PK1_ok (fnOk PK1_ok 21) 29 rfl LP0 fLoops_none writeS write_ok

theorem bytes24 : Try.prog.bytesOf 24 = 24 := by kernel_rfl
theorem fit24 {n : Nat} (h : n ≤ 1000000) : bytesFit Try.prog 24 n = true := by
  simp only [bytesFit, bytes24, decide_eq_true_eq]; omega
theorem bK_T {R : Type} {x y : Option R} : bK true x y = x := rfl
abbrev letR_id : Nat := 26
abbrev letR_sh : Shp := [some 8, none, none, none, none]
abbrev letR_fs : List Lf := [.fi .i64, .fi .i64, .fi .i64, .fs, .fl true Write_tfs, .fi .i64, .fb, .fb, .fi .i64, .fi .i64, .fi .i64, .fs]
abbrev letR_rsh : Shp := [some 8]
abbrev letR_rfs : List Lf := [.fi .i64, .fi .i64, .fi .i64, .fs, .fl true Write_tfs, .fi .i64, .fb, .fb]
noncomputable def letR_r (c_Mode : Int) (c_Until : Int) (c_Ver : Int) (c_Body : List UInt8) (c_Dirty_x : Bool) (c_Dirty : List Write_T) (c_Sent : Int) (c_Called : Bool) (c_Lost : Bool) (mode : Int) (until_ : Int) (ver : Int) (body : List UInt8) : Option Ret :=
  some { pan := false, res := AV.agg [AV.int IntKind.i64 mode, AV.int IntKind.i64 until_, AV.int IntKind.i64 ver, AV.str body, AV.slc c_Dirty_x (List.map (mkV true Write_tfs) c_Dirty), AV.int IntKind.i64 c_Sent, AV.bool false, AV.bool c_Lost], out := [], new := [] }
theorem letR_w (c_Mode : Int) (c_Until : Int) (c_Ver : Int) (c_Body : List UInt8) (c_Dirty_x : Bool) (c_Dirty : List Write_T) (c_Sent : Int) (c_Called : Bool) (c_Lost : Bool) (mode : Int) (until_ : Int) (ver : Int) (body : List UInt8) : unitQ Try.prog cfg PK2 LP0 false 26 (groupA letR_sh (Tu.mk letR_fs (c_Mode, c_Until, c_Ver, c_Body, (c_Dirty_x, c_Dirty), c_Sent, c_Called, c_Lost, mode, until_, ver, body))) [] = letR_r c_Mode c_Until c_Ver c_Body c_Dirty_x c_Dirty c_Sent c_Called c_Lost mode until_ ver body := by kernel_rfl

def letRS : FS := ⟨letR_sh, letR_fs, letR_rsh, letR_rfs, fun _ => True, fun d => (d.2.2.2.2.2.2.2.2.1, d.2.2.2.2.2.2.2.2.2.1, d.2.2.2.2.2.2.2.2.2.2.1, d.2.2.2.2.2.2.2.2.2.2.2, d.2.2.2.2.1, d.2.2.2.2.2.1, false, d.2.2.2.2.2.2.2.1), none⟩
theorem letR_v (c_Mode : Int) (c_Until : Int) (c_Ver : Int) (c_Body : List UInt8) (c_Dirty_x : Bool) (c_Dirty : List Write_T) (c_Sent : Int) (c_Called : Bool) (c_Lost : Bool) (mode : Int) (until_ : Int) (ver : Int) (body : List UInt8) (h : letRS.pre (c_Mode, c_Until, c_Ver, c_Body, (c_Dirty_x, c_Dirty), c_Sent, c_Called, c_Lost, mode, until_, ver, body)) : letR_r c_Mode c_Until c_Ver c_Body c_Dirty_x c_Dirty c_Sent c_Called c_Lost mode until_ ver body = some (letRS.ret (c_Mode, c_Until, c_Ver, c_Body, (c_Dirty_x, c_Dirty), c_Sent, c_Called, c_Lost, mode, until_, ver, body)) := rfl
theorem letR_ok : ∀ (d : Tu letR_fs), letRS.pre d → unitQ Try.prog cfg PK2 LP0 false 26 (letRS.args d) [] = some (letRS.ret d)
  | (c_Mode, c_Until, c_Ver, c_Body, (c_Dirty_x, c_Dirty), c_Sent, c_Called, c_Lost, mode, until_, ver, body), h => (letR_w c_Mode c_Until c_Ver c_Body c_Dirty_x c_Dirty c_Sent c_Called c_Lost mode until_ ver body).trans (letR_v c_Mode c_Until c_Ver c_Body c_Dirty_x c_Dirty c_Sent c_Called c_Lost mode until_ ver body h)
noncomputable def PK3 : PKs := PK2.add 26 letRS.pk
theorem PK3_ok : PKsOk Try.prog PK3 := PKsOk.fs (cfg := cfg) PK2_ok (fnOk PK2_ok 21) 26 rfl LP0 fLoops_none letRS letR_ok

abbrev bufR_id : Nat := 24
abbrev bufR_sh : Shp := [some 8, some 2]
abbrev bufR_fs : List Lf := [.fi .i64, .fi .i64, .fi .i64, .fs, .fl true Write_tfs, .fi .i64, .fb, .fb, .fi .i64, .fs]
abbrev bufR_rsh : Shp := [some 8, none]
abbrev bufR_rfs : List Lf := [.fi .i64, .fi .i64, .fi .i64, .fs, .fl true Write_tfs, .fi .i64, .fb, .fb, .fb]
noncomputable def bufR_r (c_Mode : Int) (c_Until : Int) (c_Ver : Int) (c_Body : List UInt8) (c_Dirty_x : Bool) (c_Dirty : List Write_T) (c_Sent : Int) (c_Called : Bool) (c_Lost : Bool) (w_Off : Int) (w_B : List UInt8) : Option Ret :=
  bK (decide (5 ≤ (↑(List.map (mkV true Write_tfs) c_Dirty).length : Int))) (some { pan := false, res := AV.tup [AV.agg [AV.int IntKind.i64 c_Mode, AV.int IntKind.i64 c_Until, AV.int IntKind.i64 c_Ver, AV.str c_Body, AV.slc c_Dirty_x (List.map (mkV true Write_tfs) c_Dirty), AV.int IntKind.i64 c_Sent, AV.bool c_Called, AV.bool c_Lost], AV.bool false], out := [], new := [] })
  (bK (!decide (c_Mode = 2)) (some { pan := false, res := AV.tup [AV.agg [AV.int IntKind.i64 c_Mode, AV.int IntKind.i64 c_Until, AV.int IntKind.i64 c_Ver, AV.str c_Body, AV.slc c_Dirty_x (List.map (mkV true Write_tfs) c_Dirty), AV.int IntKind.i64 c_Sent, AV.bool c_Called, AV.bool c_Lost], AV.bool false], out := [], new := [] })
    (bK (decide (0 ≤ w_Off))
      (bK (decide (w_Off < 24))
        (bK (decide (1 ≤ (↑w_B.length : Int)))
          (bK (!decide ((↑w_B.length : Int) ≤ IntKind.i64.wrap (24 - w_Off))) (some { pan := false, res := AV.tup [AV.agg [AV.int IntKind.i64 c_Mode, AV.int IntKind.i64 c_Until, AV.int IntKind.i64 c_Ver, AV.str c_Body, AV.slc c_Dirty_x (List.map (mkV true Write_tfs) c_Dirty), AV.int IntKind.i64 c_Sent, AV.bool c_Called, AV.bool c_Lost], AV.bool false], out := [], new := [] })
            (bK ((List.map (mkV true Write_tfs) c_Dirty).all fun (y : AV) => decide (y.cells.length = 2))
              (bK (List.map (mkV true Write_tfs) c_Dirty).isEmpty (some { pan := false, res := AV.tup [AV.agg [AV.int IntKind.i64 c_Mode, AV.int IntKind.i64 c_Until, AV.int IntKind.i64 c_Ver, AV.str c_Body, AV.slc false [AV.agg [AV.int IntKind.i64 w_Off, AV.str w_B]], AV.int IntKind.i64 c_Sent, AV.bool c_Called, AV.bool c_Lost], AV.bool true], out := [], new := [] })
                (bK (true && bytesFit Try.prog 24 (0 + (List.map (mkV true Write_tfs) c_Dirty).length)) (bK (decide (0 + (0 + (List.map (mkV true Write_tfs) c_Dirty).length) ≤ ([] ++ List.map (mkV true Write_tfs) c_Dirty).length)) (bK (decide (0 = 0 ∧ 0 + (List.map (mkV true Write_tfs) c_Dirty).length = ([] ++ List.map (mkV true Write_tfs) c_Dirty).length) && bytesFit Try.prog 24 (0 + (List.map (mkV true Write_tfs) c_Dirty).length + 1)) (bK (decide (0 + (0 + (List.map (mkV true Write_tfs) c_Dirty).length + 1) ≤ (List.take (0 + (List.map (mkV true Write_tfs) c_Dirty).length) ([] ++ List.map (mkV true Write_tfs) c_Dirty) ++ [AV.agg [AV.int IntKind.i64 w_Off, AV.str w_B]]).length)) (some { pan := false, res := AV.tup [AV.agg [AV.int IntKind.i64 c_Mode, AV.int IntKind.i64 c_Until, AV.int IntKind.i64 c_Ver, AV.str c_Body, AV.slc false (List.take (0 + (List.map (mkV true Write_tfs) c_Dirty).length + 1) (List.drop 0 (List.take (0 + (List.map (mkV true Write_tfs) c_Dirty).length) ([] ++ List.map (mkV true Write_tfs) c_Dirty) ++ [AV.agg [AV.int IntKind.i64 w_Off, AV.str w_B]]))), AV.int IntKind.i64 c_Sent, AV.bool c_Called, AV.bool c_Lost], AV.bool true], out := [], new := [] }) none) none) none) none))
              none))
          (some { pan := false, res := AV.tup [AV.agg [AV.int IntKind.i64 c_Mode, AV.int IntKind.i64 c_Until, AV.int IntKind.i64 c_Ver, AV.str c_Body, AV.slc c_Dirty_x (List.map (mkV true Write_tfs) c_Dirty), AV.int IntKind.i64 c_Sent, AV.bool c_Called, AV.bool c_Lost], AV.bool false], out := [], new := [] }))
        (some { pan := false, res := AV.tup [AV.agg [AV.int IntKind.i64 c_Mode, AV.int IntKind.i64 c_Until, AV.int IntKind.i64 c_Ver, AV.str c_Body, AV.slc c_Dirty_x (List.map (mkV true Write_tfs) c_Dirty), AV.int IntKind.i64 c_Sent, AV.bool c_Called, AV.bool c_Lost], AV.bool false], out := [], new := [] }))
      (some { pan := false, res := AV.tup [AV.agg [AV.int IntKind.i64 c_Mode, AV.int IntKind.i64 c_Until, AV.int IntKind.i64 c_Ver, AV.str c_Body, AV.slc c_Dirty_x (List.map (mkV true Write_tfs) c_Dirty), AV.int IntKind.i64 c_Sent, AV.bool c_Called, AV.bool c_Lost], AV.bool false], out := [], new := [] })))
theorem bufR_w (c_Mode : Int) (c_Until : Int) (c_Ver : Int) (c_Body : List UInt8) (c_Dirty_x : Bool) (c_Dirty : List Write_T) (c_Sent : Int) (c_Called : Bool) (c_Lost : Bool) (w_Off : Int) (w_B : List UInt8) : unitQ Try.prog cfg PK3 LP0 false 24 (groupA bufR_sh (Tu.mk bufR_fs (c_Mode, c_Until, c_Ver, c_Body, (c_Dirty_x, c_Dirty), c_Sent, c_Called, c_Lost, w_Off, w_B))) [] = bufR_r c_Mode c_Until c_Ver c_Body c_Dirty_x c_Dirty c_Sent c_Called c_Lost w_Off w_B := by kernel_rfl

def cOk (c : Cache_T) : Prop := c.2.2.2.2.1.2.length ≤ 5 ∧ c.2.2.2.1.length ≤ 24
def bufGood (r : Option Ret) : Prop := ∃ y : Cache_T × Bool, cOk y.1 ∧ r = some { pan := false, res := .tup [.agg (Tu.mk Cache_tfs y.1), .bool y.2], out := [], new := [] }
theorem bufG_leaf {c : Cache_T} {b : Bool} (h : cOk c) : bufGood (some { pan := false, res := .tup [.agg (Tu.mk Cache_tfs c), .bool b], out := [], new := [] }) := ⟨(c, b), h, rfl⟩
set_option maxHeartbeats 4000000 in
theorem bufR_good (c_Mode : Int) (c_Until : Int) (c_Ver : Int) (c_Body : List UInt8) (c_Dirty_x : Bool) (c_Dirty : List Write_T) (c_Sent : Int) (c_Called : Bool) (c_Lost : Bool) (w_Off : Int) (w_B : List UInt8) (h : c_Dirty.length ≤ 5) (hb : c_Body.length ≤ 24) : bufGood (bufR_r c_Mode c_Until c_Ver c_Body c_Dirty_x c_Dirty c_Sent c_Called c_Lost w_Off w_B) := by
  have no : bufGood (some { pan := false, res := .tup [.agg (Tu.mk Cache_tfs (c_Mode, c_Until, c_Ver, c_Body, (c_Dirty_x, c_Dirty), c_Sent, c_Called, c_Lost)), .bool false], out := [], new := [] }) := bufG_leaf ⟨h, hb⟩
  unfold bufR_r
  refine bK_iq (fun _ => no) (fun c1 => bK_nq (fun _ => no) (fun _ => bK_iq (fun _ => bK_iq (fun _ => bK_iq (fun _ => bK_nq (fun _ => no) (fun _ => ?_)) (fun _ => no)) (fun _ => no)) (fun _ => no)))
  refine bK_tq (by simp [AV.cells, mkV, mkA, Tu.mk]) ?_
  refine bK_bq (fun _ => ?_) (fun _ => ?_)
  · exact bufG_leaf (c := (c_Mode, c_Until, c_Ver, c_Body, (false, [(w_Off, w_B)]), c_Sent, c_Called, c_Lost)) ⟨by show (1 : Nat) ≤ 5; decide, hb⟩
  · have hlt : c_Dirty.length ≤ 4 := by simp only [List.length_map] at c1; omega
    refine bK_tq (by simp [fit24 (show c_Dirty.length ≤ 1000000 by omega)]) (bK_tq (by simp) (bK_tq (by simp [fit24 (show c_Dirty.length + 1 ≤ 1000000 by omega)]) (bK_tq (by simp) ?_)))
    have e : List.take (0 + (List.map (mkV true Write_tfs) c_Dirty).length + 1) (List.drop 0 (List.take (0 + (List.map (mkV true Write_tfs) c_Dirty).length) ([] ++ List.map (mkV true Write_tfs) c_Dirty) ++ [AV.agg [AV.int IntKind.i64 w_Off, AV.str w_B]])) = (c_Dirty ++ [(w_Off, w_B)]).map (mkV true Write_tfs) := by
      simp [List.take_of_length_le]
      rfl
    rw [e]
    exact bufG_leaf (c := (c_Mode, c_Until, c_Ver, c_Body, (false, c_Dirty ++ [(w_Off, w_B)]), c_Sent, c_Called, c_Lost)) ⟨by show (c_Dirty ++ [(w_Off, w_B)]).length ≤ 5; simp; omega, hb⟩
abbrev BufD : Type := Cache_T × Int × List UInt8
theorem buf_ex (d : BufD) (h : cOk d.1) : bufGood (bufR_r d.1.1 d.1.2.1 d.1.2.2.1 d.1.2.2.2.1 d.1.2.2.2.2.1.1 d.1.2.2.2.2.1.2 d.1.2.2.2.2.2.1 d.1.2.2.2.2.2.2.1 d.1.2.2.2.2.2.2.2 d.2.1 d.2.2) := bufR_good _ _ _ _ _ _ _ _ _ _ _ h.1 h.2
/-- With one more write. -/
noncomputable def bufF (d : BufD) : Cache_T × Bool := open Classical in if h : cOk d.1 then Classical.choose (buf_ex d h) else (d.1, false)
theorem bufF_spec (d : BufD) (h : cOk d.1) : cOk (bufF d).1 ∧ bufR_r d.1.1 d.1.2.1 d.1.2.2.1 d.1.2.2.2.1 d.1.2.2.2.2.1.1 d.1.2.2.2.2.1.2 d.1.2.2.2.2.2.1 d.1.2.2.2.2.2.2.1 d.1.2.2.2.2.2.2.2 d.2.1 d.2.2 = some { pan := false, res := .tup [.agg (Tu.mk Cache_tfs (bufF d).1), .bool (bufF d).2], out := [], new := [] } := by
  unfold bufF
  rw [dif_pos h]
  exact Classical.choose_spec (buf_ex d h)
def bfD (d : Tu bufR_fs) : BufD := ((d.1, d.2.1, d.2.2.1, d.2.2.2.1, d.2.2.2.2.1, d.2.2.2.2.2.1, d.2.2.2.2.2.2.1, d.2.2.2.2.2.2.2.1), d.2.2.2.2.2.2.2.2.1, d.2.2.2.2.2.2.2.2.2)
noncomputable def bufRS : FS := ⟨bufR_sh, bufR_fs, bufR_rsh, bufR_rfs, fun d => d.2.2.2.2.1.2.length ≤ 5 ∧ d.2.2.2.1.length ≤ 24, fun d => let y := bufF (bfD d); (y.1.1, y.1.2.1, y.1.2.2.1, y.1.2.2.2.1, y.1.2.2.2.2.1, y.1.2.2.2.2.2.1, y.1.2.2.2.2.2.2.1, y.1.2.2.2.2.2.2.2, y.2), none⟩
theorem bufR_v (c_Mode : Int) (c_Until : Int) (c_Ver : Int) (c_Body : List UInt8) (c_Dirty_x : Bool) (c_Dirty : List Write_T) (c_Sent : Int) (c_Called : Bool) (c_Lost : Bool) (w_Off : Int) (w_B : List UInt8) (h : bufRS.pre (c_Mode, c_Until, c_Ver, c_Body, (c_Dirty_x, c_Dirty), c_Sent, c_Called, c_Lost, w_Off, w_B)) : bufR_r c_Mode c_Until c_Ver c_Body c_Dirty_x c_Dirty c_Sent c_Called c_Lost w_Off w_B = some (bufRS.ret (c_Mode, c_Until, c_Ver, c_Body, (c_Dirty_x, c_Dirty), c_Sent, c_Called, c_Lost, w_Off, w_B)) :=
  (bufF_spec ((c_Mode, c_Until, c_Ver, c_Body, (c_Dirty_x, c_Dirty), c_Sent, c_Called, c_Lost), w_Off, w_B) h).2
theorem bufR_ok : ∀ (d : Tu bufR_fs), bufRS.pre d → unitQ Try.prog cfg PK3 LP0 false 24 (bufRS.args d) [] = some (bufRS.ret d)
  | (c_Mode, c_Until, c_Ver, c_Body, (c_Dirty_x, c_Dirty), c_Sent, c_Called, c_Lost, w_Off, w_B), h => (bufR_w c_Mode c_Until c_Ver c_Body c_Dirty_x c_Dirty c_Sent c_Called c_Lost w_Off w_B).trans (bufR_v c_Mode c_Until c_Ver c_Body c_Dirty_x c_Dirty c_Sent c_Called c_Lost w_Off w_B h)
noncomputable def PK4 : PKs := PK3.add 24 bufRS.pk
theorem PK4_ok : PKsOk Try.prog PK4 := PKsOk.fs (cfg := cfg) PK3_ok (fnOk PK3_ok 21) 24 rfl LP0 fLoops_none bufRS bufR_ok

def caHd (b : Picks_T) (c : Cache_T) (i : Int) : St := { fr := [(0, .ptr 1000000 0 0 0), (2, .ptr 32 0 0 0), (3, .ptr 48 0 0 0), (4, .int .i64 i)], bs := [(32, boxB (Tu.mk Cache_tfs (0, 0, 0, [], (true, []), 0, false, false))), (48, boxB (Tu.mk Cache_tfs c)), (1000000, boxB (Tu.mk Picks_tfs b))], df := [] }
noncomputable def ca_s (x : Bool) (l : List Int) (n : Int) (c : Cache_T) (i : Int) : Option (St ⊕ (Ex × St)) := stepK Try.prog cfg PK4 LP0 10 0 (caHd ((x, l), n) c i)
noncomputable def ca_s_r (x : Bool) (l : List Int) (n : Int) (c : Cache_T) (i : Int) : Option (St ⊕ Ex × St) :=
  bK (decide (0 < i))
  (oK (writeS.dec [AV.ptr 1000000 0 0 0] [{ v := 0, k := BK.box, fz := false, sz := 0, es := [AV.slc x (List.map (mkV false [Lf.fi IntKind.u8]) l), AV.int IntKind.i64 n] }]) fun (d0 : ((Bool × List Int) × Int) × PUnit) =>
    oK (bufRS.dec [AV.agg [AV.int IntKind.i64 c.fst, AV.int IntKind.i64 c.snd.fst, AV.int IntKind.i64 c.snd.snd.fst, AV.str c.snd.snd.snd.fst, AV.slc c.snd.snd.snd.snd.fst.fst (List.map (mkV true Write_tfs) c.snd.snd.snd.snd.fst.snd), AV.int IntKind.i64 c.snd.snd.snd.snd.snd.fst, AV.bool c.snd.snd.snd.snd.snd.snd.fst, AV.bool c.snd.snd.snd.snd.snd.snd.snd], AV.agg [AV.int IntKind.i64 (writeF d0.fst).snd.fst, AV.str (writeF d0.fst).snd.snd]] []) fun (d1 : Int × Int × Int × List UInt8 × (Bool × List (Int × List UInt8)) × Int × Bool × Bool × Int × List UInt8) =>
      some (Sum.inl { fr := [(0, AV.ptr 1000000 0 0 0), (2, AV.ptr 32 0 0 0), (3, AV.ptr 48 0 0 0), (4, AV.int IntKind.i64 (IntKind.i64.wrap (i - 1)))], bs := [(32, { v := 0, k := BK.box, fz := false, sz := 0, es := [AV.int IntKind.i64 0, AV.int IntKind.i64 0, AV.int IntKind.i64 0, AV.str [], AV.slc true [], AV.int IntKind.i64 0, AV.bool false, AV.bool false] }), (48, { v := 0, k := BK.box, fz := false, sz := 0, es := [AV.int IntKind.i64 (bufF (bfD d1)).fst.fst, AV.int IntKind.i64 (bufF (bfD d1)).fst.snd.fst, AV.int IntKind.i64 (bufF (bfD d1)).fst.snd.snd.fst, AV.str (bufF (bfD d1)).fst.snd.snd.snd.fst, AV.slc (bufF (bfD d1)).fst.snd.snd.snd.snd.fst.fst (List.map (mkV true Write_tfs) (bufF (bfD d1)).fst.snd.snd.snd.snd.fst.snd), AV.int IntKind.i64 (bufF (bfD d1)).fst.snd.snd.snd.snd.snd.fst, AV.bool (bufF (bfD d1)).fst.snd.snd.snd.snd.snd.snd.fst, AV.bool (bufF (bfD d1)).fst.snd.snd.snd.snd.snd.snd.snd] }), (1000000, { v := 0, k := BK.box, fz := false, sz := 0, es := [AV.slc (writeF d0.fst).fst.fst.fst (List.map (mkV false [Lf.fi IntKind.u8]) (writeF d0.fst).fst.fst.snd), AV.int IntKind.i64 (writeF d0.fst).fst.snd] })], df := [] }))
  (some (Sum.inr (Ex.exit 0, { fr := [(0, AV.ptr 1000000 0 0 0), (2, AV.ptr 32 0 0 0), (3, AV.ptr 48 0 0 0)], bs := [(32, { v := 0, k := BK.box, fz := false, sz := 0, es := [AV.int IntKind.i64 0, AV.int IntKind.i64 0, AV.int IntKind.i64 0, AV.str [], AV.slc true [], AV.int IntKind.i64 0, AV.bool false, AV.bool false] }), (48, { v := 0, k := BK.box, fz := false, sz := 0, es := [AV.int IntKind.i64 c.fst, AV.int IntKind.i64 c.snd.fst, AV.int IntKind.i64 c.snd.snd.fst, AV.str c.snd.snd.snd.fst, AV.slc c.snd.snd.snd.snd.fst.fst (List.map (mkV true Write_tfs) c.snd.snd.snd.snd.fst.snd), AV.int IntKind.i64 c.snd.snd.snd.snd.snd.fst, AV.bool c.snd.snd.snd.snd.snd.snd.fst, AV.bool c.snd.snd.snd.snd.snd.snd.snd] }), (1000000, { v := 0, k := BK.box, fz := false, sz := 0, es := [AV.slc x (List.map (mkV false [Lf.fi IntKind.u8]) l), AV.int IntKind.i64 n] })], df := [] })))
theorem ca_s_w (x : Bool) (l : List Int) (n : Int) (c : Cache_T) (i : Int) : ca_s x l n c i = ca_s_r x l n c i := by kernel_rfl

end Go.Proofs.Ytlhnpfpdjlcakaa
