/- Numbers from which choices are read. -/
import Derived.Test.YtjohkibidibihaaBase
import Derived.Test.YtjohkibidibihaaAbLp
set_option linter.unusedVariables false
set_option linter.unusedSimpArgs false
set_option maxRecDepth 100000
namespace Go.Proofs.Ytjohkibidibihaa
open Go Go.Ab

noncomputable def PKs0 : PKs := fun _ => none
theorem PKs0_ok : PKsOk Try.prog PKs0 := PKsOk.none
def LP0 : LPs := fun _ _ => none
abbrev begun_id : Nat := 7
abbrev begun_sh : Shp := []
abbrev begun_fs : List Lf := []
abbrev begun_rsh : Shp := [none]
abbrev begun_rfs : List Lf := [.fb]
noncomputable def begun_r  : Option Ret :=
  some { pan := false, res := AV.bool true, out := [], new := [] }
theorem begun_w  : unitQ Try.prog cfg PKs0 LP0 false 7 (groupA begun_sh (Tu.mk begun_fs ())) [] = begun_r  := by kernel_rfl

def begunS : FS := ⟨begun_sh, begun_fs, begun_rsh, begun_rfs, fun _ => True, fun _ => true, none⟩
theorem begun_v (h : True) : begun_r = some (begunS.ret ()) := rfl
theorem begun_ok : ∀ (d : Tu begun_fs), begunS.pre d → unitQ Try.prog cfg PKs0 LP0 false 7 (begunS.args d) [] = some (begunS.ret d)
  | (), h => (begun_w ).trans (begun_v  h)
noncomputable def PK0 : PKs := PKs0.add 7 begunS.pk
theorem PK0_ok : PKsOk Try.prog PK0 := PKsOk.fs (cfg := cfg) PKs0_ok (fnOk PKs0_ok 21) 7 rfl LP0 fLoops_none begunS begun_ok

abbrev num_id : Nat := 14
abbrev num_sh : Shp := [none]
abbrev num_fs : List Lf := [.fi .i64]
abbrev num_bs : List Lf := [.fl false [.fi .u8], .fi .i64]
abbrev num_rsh : Shp := [none]
abbrev num_rfs : List Lf := [.fi .i64]
noncomputable def num_r (p_l_x : Bool) (p_l : List Int) (p_n : Int) (m : Int) : Option Ret :=
  bK (decide ((↑(List.map (mkV false [Lf.fi IntKind.u8]) p_l).length : Int) ≤ p_n))
  (some
    { pan := false, res := AV.int IntKind.i64 0,
      out :=
        [{ v := 0, k := BK.box, fz := false, sz := 0,
            es := [AV.slc p_l_x (List.map (mkV false [Lf.fi IntKind.u8]) p_l), AV.int IntKind.i64 p_n] }],
      new := [] })
  (bK (decide (m < 1))
    (some
      { pan := false, res := AV.int IntKind.i64 0,
        out :=
          [{ v := 0, k := BK.box, fz := false, sz := 0,
              es := [AV.slc p_l_x (List.map (mkV false [Lf.fi IntKind.u8]) p_l), AV.int IntKind.i64 p_n] }],
        new := [] })
    (oK
      (elemAt false [Lf.fi IntKind.u8] (List.map (mkV false [Lf.fi IntKind.u8]) p_l)
        (IntKind.i64.wrap (IntKind.i64.wrap (p_n + 1) - 1)))
      fun (d0 : Int) =>
      bK (decide (m = 0)) none
        (some
          { pan := false, res := AV.int IntKind.i64 ((IntKind.i64.wrap d0).tmod m),
            out :=
              [{ v := 0, k := BK.box, fz := false, sz := 0,
                  es :=
                    [AV.slc p_l_x (List.map (mkV false [Lf.fi IntKind.u8]) p_l),
                      AV.int IntKind.i64 (IntKind.i64.wrap (p_n + 1))] }],
            new := [] })))
theorem num_w (p_l_x : Bool) (p_l : List Int) (p_n : Int) (m : Int) : unitQ Try.prog cfg PK0 LP0 false 14 (.ptr outBase 0 0 0 :: groupA num_sh (Tu.mk num_fs m)) [boxB (Tu.mk num_bs ((p_l_x, p_l), p_n))] = num_r p_l_x p_l p_n m := by kernel_rfl

/-- The next choice. -/
def numF (b : Picks_T) (m : Int) : Picks_T × Int := if (b.1.2.length : Int) ≤ b.2 ∨ m < 1 then (b, 0) else ((b.1, b.2 + 1), (b.1.2.getD b.2.toNat 0).tmod m)
/-- Bytes. -/
def pkOk (b : Picks_T) : Prop := 0 ≤ b.2 ∧ b.2 ≤ 2 ^ 62 ∧ b.1.2.length ≤ 2 ^ 62 ∧ ∀ v ∈ b.1.2, 0 ≤ v ∧ v < 256
def numS : MS := ⟨num_bs, num_sh, num_fs, num_rsh, num_rfs, fun b _ => pkOk b, numF, none⟩
theorem getD_mem {l : List Int} {i : Nat} (h : ∀ v ∈ l, 0 ≤ v ∧ v < 256) : 0 ≤ l.getD i 0 ∧ l.getD i 0 < 256 := by
  by_cases hi : i < l.length
  · rw [getD_at hi]; exact h _ (List.getElem_mem hi)
  · simp [List.getD, List.getElem?_eq_none (show l.length ≤ i by omega)]
theorem numF_ok {b : Picks_T} {m : Int} (h : pkOk b) : pkOk (numF b m).1 := by
  unfold numF
  split
  · exact h
  · obtain ⟨h1, h2, h3, h4⟩ := h
    refine ⟨?_, ?_, h3, h4⟩
    · show 0 ≤ b.2 + 1
      omega
    · show b.2 + 1 ≤ 2 ^ 62
      omega
theorem numF_lt {b : Picks_T} {m : Int} (h : pkOk b) (hm : 1 ≤ m) : 0 ≤ (numF b m).2 ∧ (numF b m).2 < m := by
  unfold numF
  split
  · exact ⟨Int.le_refl _, by show (0 : Int) < m; omega⟩
  · obtain ⟨h1, h2, h3, h4⟩ := h
    have := getD_mem (i := b.2.toNat) h4
    exact ⟨Int.tmod_nonneg _ this.1, Int.tmod_lt_of_pos _ (by omega)⟩
theorem num_v (p_l_x : Bool) (p_l : List Int) (p_n : Int) (m : Int) (h : pkOk ((p_l_x, p_l), p_n)) : num_r p_l_x p_l p_n m = some (numS.ret ((p_l_x, p_l), p_n) m) := by
  obtain ⟨h1, h2, h3, h4⟩ := h
  simp only at h1 h2 h3 h4
  show _ = some (numS.out (numF ((p_l_x, p_l), p_n) m))
  unfold num_r numF
  simp only [List.length_map]
  refine bK_i (fun c1 => ?_) (fun c1 => bK_i (fun c2 => ?_) (fun c2 => ?_))
  · rw [if_pos (.inl c1)]; rfl
  · rw [if_pos (.inr c2)]; rfl
  · rw [if_neg (by intro hh; rcases hh with hh | hh; exact c1 hh; exact c2 hh)]
    have e1 : IntKind.i64.wrap (p_n + 1) = p_n + 1 := w64 (by omega) (by omega)
    have e2 : IntKind.i64.wrap (p_n + 1 - 1) = p_n := by rw [w64 (by omega) (by omega)]; omega
    rw [e1, e2, oK_atD rfl 0 h1 (by omega)]
    have := getD_mem (i := p_n.toNat) h4
    refine bK_i (fun c3 => by omega) (fun _ => ?_)
    rw [w64 (by omega) (by omega)]
    rfl
theorem num_ok : ∀ (b : Tu num_bs) (d : Tu num_fs), numS.pre b d → unitQ Try.prog cfg PK0 LP0 false 14 (numS.args d) (numS.out0 b) = some (numS.ret b d)
  | ((p_l_x, p_l), p_n), m, h => (num_w p_l_x p_l p_n m).trans (num_v p_l_x p_l p_n m h)
noncomputable def PK1 : PKs := PK0.add 14 numS.pk
theorem PK1_ok : PKsOk Try.prog PK1 := PKsOk.ms (cfg := cfg) PK0_ok (fnOk PK0_ok 21) 14 rfl LP0 fLoops_none numS num_ok

abbrev write_id : Nat := 16
abbrev write_sh : Shp := []
abbrev write_fs : List Lf := []
abbrev write_bs : List Lf := [.fl false [.fi .u8], .fi .i64]
abbrev write_rsh : Shp := [some 2]
abbrev write_rfs : List Lf := [.fi .i64, .fs]
noncomputable def write_r (p_l_x : Bool) (p_l : List Int) (p_n : Int) : Option Ret :=
  oK
  (numS.dec [AV.ptr 1000000 0 0 0, AV.int IntKind.i64 10]
    [{ v := 0, k := BK.box, fz := false, sz := 0,
        es := [AV.slc p_l_x (List.map (mkV false [Lf.fi IntKind.u8]) p_l), AV.int IntKind.i64 p_n] }])
  fun (d0 : ((Bool × List Int) × Int) × Int) =>
  oK
    (numS.dec [AV.ptr 1000000 0 0 0, AV.int IntKind.i64 6]
      [{ v := 0, k := BK.box, fz := false, sz := 0,
          es :=
            [AV.slc (numF d0.fst d0.snd).fst.fst.fst
                (List.map (mkV false [Lf.fi IntKind.u8]) (numF d0.fst d0.snd).fst.fst.snd),
              AV.int IntKind.i64 (numF d0.fst d0.snd).fst.snd] }])
    fun (d1 : ((Bool × List Int) × Int) × Int) =>
    bK (decide (0 ≤ (numF d1.fst d1.snd).snd ∧ (numF d1.fst d1.snd).snd < 6))
      (oK
        (ldRow [Lf.fs]
          [AV.str [120], AV.str [121, 122], AV.str [104, 101, 108, 108, 111], AV.str [48], AV.str [97, 98, 0, 99, 100],
            AV.str [102, 111, 117, 114, 116, 101, 101, 110, 32, 98, 121, 116, 101, 115]]
          (0 + Int.toNat (numF d1.fst d1.snd).snd) 0)
        fun (d2 : List UInt8) =>
        some
          { pan := false, res := AV.agg [AV.int IntKind.i64 (numF d0.fst d0.snd).snd, AV.str d2],
            out :=
              [{ v := 0, k := BK.box, fz := false, sz := 0,
                  es :=
                    [AV.slc (numF d1.fst d1.snd).fst.fst.fst
                        (List.map (mkV false [Lf.fi IntKind.u8]) (numF d1.fst d1.snd).fst.fst.snd),
                      AV.int IntKind.i64 (numF d1.fst d1.snd).fst.snd] }],
            new := [] })
      none
theorem write_w (p_l_x : Bool) (p_l : List Int) (p_n : Int) : unitQ Try.prog cfg PK1 LP0 false 16 (.ptr outBase 0 0 0 :: groupA write_sh (Tu.mk write_fs ())) [boxB (Tu.mk write_bs ((p_l_x, p_l), p_n))] = write_r p_l_x p_l p_n := by kernel_rfl

/-- The bytes of what is written. -/
def bodiesL : List (List UInt8) := [[120], [121, 122], [104, 101, 108, 108, 111], [48], [97, 98, 0, 99, 100], [102, 111, 117, 114, 116, 101, 101, 110, 32, 98, 121, 116, 101, 115]]
/-- The next write. -/
def writeF (b : Picks_T) : Picks_T × Write_T := let x := numF b 10; let y := numF x.1 6; (y.1, x.2, bodiesL.getD y.2.toNat [])
def writeS : MS := ⟨write_bs, write_sh, write_fs, write_rsh, write_rfs, fun b _ => pkOk b, fun b _ => writeF b, none⟩
theorem writeF_ok {b : Picks_T} (h : pkOk b) : pkOk (writeF b).1 := numF_ok (numF_ok h)
theorem ldRow_strs (l : List (List UInt8)) (i : Nat) (h : i < l.length) : ldRow [Lf.fs] (l.map AV.str) i 0 = some (l.getD i []) := by
  simp [ldRow, h, ldCells, AV.cells, Tu.dec, Lf.dec, List.getD]
theorem write_v (p_l_x : Bool) (p_l : List Int) (p_n : Int) (h : pkOk ((p_l_x, p_l), p_n)) : write_r p_l_x p_l p_n = some (writeS.ret ((p_l_x, p_l), p_n) ()) := by
  unfold write_r
  refine oK_ms numS ((p_l_x, p_l), p_n) (10 : Int) h ?_
  have h1 := numF_ok (m := 10) h
  refine oK_ms numS (numF ((p_l_x, p_l), p_n) 10).1 (6 : Int) h1 ?_
  have h2 := numF_lt (m := 6) h1 (by omega)
  refine bK_i (fun _ => ?_) (fun c => absurd h2 c)
  refine (oK_pos (ldRow_strs bodiesL _ ?_)).trans ?_
  · show _ < 6
    simp only
    omega
  · rw [Nat.zero_add]; rfl
theorem write_ok : ∀ (b : Tu write_bs) (d : Tu write_fs), writeS.pre b d → unitQ Try.prog cfg PK1 LP0 false 16 (writeS.args d) (writeS.out0 b) = some (writeS.ret b d)
  | ((p_l_x, p_l), p_n), (), h => (write_w p_l_x p_l p_n).trans (write_v p_l_x p_l p_n h)
noncomputable def PK2 : PKs := PK1.add 16 writeS.pk
theorem PK2_ok : PKsOk Try.prog PK2 := PKsOk.ms (cfg := cfg) PK1_ok (fnOk PK1_ok 21) 16 rfl LP0 fLoops_none writeS write_ok

end Go.Proofs.Ytjohkibidibihaa
