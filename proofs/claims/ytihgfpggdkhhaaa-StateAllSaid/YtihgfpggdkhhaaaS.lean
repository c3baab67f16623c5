/- A part of the proof: contracts of functions. -/
import Derived.Test.YtihgfpggdkhhaaaF
import Derived.Test.YtihgfpggdkhhaaaAbAny

set_option linter.unusedVariables false
set_option linter.unusedSimpArgs false
set_option maxRecDepth 100000
namespace Go.Proofs.Ytihgfpggdkhhaaa
open Go Go.Ab
abbrev begun_id : Nat := 9
abbrev begun_sh : Shp := []
abbrev begun_fs : List Lf := []
abbrev begun_rsh : Shp := [none]
abbrev begun_rfs : List Lf := [.fb]
noncomputable def begun_r  : Option Ret :=
  some { pan := false, res := AV.bool true, out := [], new := [] }
theorem begun_w  : unitQ Try.prog cfg PKs0 LP0 false 9 (groupA begun_sh (Tu.mk begun_fs ())) [] = begun_r  := by kernel_rfl

def begunS : FS := ⟨begun_sh, begun_fs, begun_rsh, begun_rfs, fun _ => True, fun _ => true, none⟩
theorem begun_v (h : True) : begun_r = some (begunS.ret ()) := rfl
theorem begun_ok : ∀ (d : Tu begun_fs), begunS.pre d → unitQ Try.prog cfg PKs0 LP0 false 9 (begunS.args d) [] = some (begunS.ret d)
  | (), h => (begun_w ).trans (begun_v  h)
noncomputable def PKcb : PKs := PKs0.add 9 begunS.pk
theorem PKcb_ok : PKsOk Try.prog PKcb := PKsOk.fs (cfg := cfg) PKs0_ok (fnOk PKs0_ok 21) 9 rfl LP0 fLoops_none begunS begun_ok

noncomputable def PKz : PKs := fun _ => none
theorem PKz_ok : PKsOk Try.prog PKz := PKsOk.none
noncomputable def PK0 : PKs := PKz.add 9 begunS.pk
theorem PK0_ok : PKsOk Try.prog PK0 := PKsOk.take PKz_ok PKcb_ok rfl
abbrev num_id : Nat := 29
abbrev num_sh : Shp := [none]
abbrev num_fs : List Lf := [.fi .i64]
abbrev num_bs : List Lf := [.fl false [.fi .u8], .fi .i64]
abbrev num_rsh : Shp := [none]
abbrev num_rfs : List Lf := [.fi .i64]
noncomputable def num_r (p_l_x : Bool) (p_l : List Int) (p_n : Int) (m : Int) : Option Ret :=
  bK (decide ((↑(List.map (mkV false [Lf.fi IntKind.u8]) p_l).length : Int) ≤ p_n)) (some { pan := false, res := AV.int IntKind.i64 0, out := [{ v := 0, k := BK.box, fz := false, sz := 0, es := [AV.slc p_l_x (List.map (mkV false [Lf.fi IntKind.u8]) p_l), AV.int IntKind.i64 p_n] }], new := [] }) (bK (decide (m < 1)) (some { pan := false, res := AV.int IntKind.i64 0, out := [{ v := 0, k := BK.box, fz := false, sz := 0, es := [AV.slc p_l_x (List.map (mkV false [Lf.fi IntKind.u8]) p_l), AV.int IntKind.i64 p_n] }], new := [] }) (oK (elemAt false [Lf.fi IntKind.u8] (List.map (mkV false [Lf.fi IntKind.u8]) p_l) (IntKind.i64.wrap (IntKind.i64.wrap (p_n + 1) - 1))) fun (d0 : Int) => bK (decide (m = 0)) none (some { pan := false, res := AV.int IntKind.i64 ((IntKind.i64.wrap d0).tmod m), out := [{ v := 0, k := BK.box, fz := false, sz := 0, es := [AV.slc p_l_x (List.map (mkV false [Lf.fi IntKind.u8]) p_l), AV.int IntKind.i64 (IntKind.i64.wrap (p_n + 1))] }], new := [] })))
theorem num_w (p_l_x : Bool) (p_l : List Int) (p_n : Int) (m : Int) : unitQ Try.prog cfg PK0 LP0 false 29 (.ptr outBase 0 0 0 :: groupA num_sh (Tu.mk num_fs m)) [boxB (Tu.mk num_bs ((p_l_x, p_l), p_n))] = num_r p_l_x p_l p_n m := by kernel_rfl

/-- The next choice. -/
def numF (b : Picks_T) (m : Int) : Picks_T × Int := if (b.1.2.length : Int) ≤ b.2 ∨ m < 1 then (b, 0) else ((b.1, b.2 + 1), (b.1.2.getD b.2.toNat 0).tmod m)
/-- Bytes. -/
def pkOk (b : Picks_T) : Prop := 0 ≤ b.2 ∧ b.2 ≤ 2 ^ 62 ∧ b.1.2.length ≤ 2 ^ 62 ∧ ∀ v ∈ b.1.2, 0 ≤ v ∧ v < 256
def numS : MS := ⟨num_bs, num_sh, num_fs, num_rsh, num_rfs, fun b _ => pkOk b, numF, none⟩
theorem getD_mem {l : List Int} {i : Nat} (h : ∀ v ∈ l, 0 ≤ v ∧ v < 256) : 0 ≤ l.getD i 0 ∧ l.getD i 0 < 256 := by
  by_cases hi : i < l.length
  · rw [getD_at hi]; exact h _ (List.getElem_mem hi)
  · simp [List.getD, List.getElem?_eq_none (show l.length ≤ i by omega)]
theorem numF_ok {b : Picks_T} {m : Int} (h : pkOk b) : pkOk (numF b m).1 := by
  unfold numF
  split
  · exact h
  · obtain ⟨h1, h2, h3, h4⟩ := h
    refine ⟨?_, ?_, h3, h4⟩
    · show 0 ≤ b.2 + 1
      omega
    · show b.2 + 1 ≤ 2 ^ 62
      omega
theorem numF_lt {b : Picks_T} {m : Int} (h : pkOk b) (hm : 1 ≤ m) : 0 ≤ (numF b m).2 ∧ (numF b m).2 < m := by
  unfold numF
  split
  · exact ⟨Int.le_refl _, by show (0 : Int) < m; omega⟩
  · obtain ⟨h1, h2, h3, h4⟩ := h
    have := getD_mem (i := b.2.toNat) h4
    exact ⟨Int.tmod_nonneg _ this.1, Int.tmod_lt_of_pos _ (by omega)⟩
theorem num_v (p_l_x : Bool) (p_l : List Int) (p_n : Int) (m : Int) (h : pkOk ((p_l_x, p_l), p_n)) : num_r p_l_x p_l p_n m = some (numS.ret ((p_l_x, p_l), p_n) m) := by
  obtain ⟨h1, h2, h3, h4⟩ := h
  simp only at h1 h2 h3 h4
  show _ = some (numS.out (numF ((p_l_x, p_l), p_n) m))
  unfold num_r numF
  simp only [List.length_map]
  refine bK_i (fun c1 => ?_) (fun c1 => bK_i (fun c2 => ?_) (fun c2 => ?_))
  · rw [if_pos (.inl c1)]; rfl
  · rw [if_pos (.inr c2)]; rfl
  · rw [if_neg (by intro hh; rcases hh with hh | hh; exact c1 hh; exact c2 hh)]
    have e1 : IntKind.i64.wrap (p_n + 1) = p_n + 1 := w64 (by omega) (by omega)
    have e2 : IntKind.i64.wrap (p_n + 1 - 1) = p_n := by rw [w64 (by omega) (by omega)]; omega
    rw [e1, e2, oK_atD rfl 0 h1 (by omega)]
    have := getD_mem (i := p_n.toNat) h4
    refine bK_i (fun c3 => by omega) (fun _ => ?_)
    rw [w64 (by omega) (by omega)]
    rfl
theorem num_ok : ∀ (b : Tu num_bs) (d : Tu num_fs), numS.pre b d → unitQ Try.prog cfg PK0 LP0 false 29 (numS.args d) (numS.out0 b) = some (numS.ret b d)
  | ((p_l_x, p_l), p_n), m, h => (num_w p_l_x p_l p_n m).trans (num_v p_l_x p_l p_n m h)
noncomputable def PK1 : PKs := PK0.add 29 numS.pk
theorem PK1_ok : PKsOk Try.prog PK1 := PKsOk.ms (cfg := cfg) PK0_ok (fnOk PK0_ok 21) 29 rfl LP0 fLoops_none numS num_ok

abbrev write_id : Nat := 30
abbrev write_sh : Shp := []
abbrev write_fs : List Lf := []
abbrev write_bs : List Lf := [.fl false [.fi .u8], .fi .i64]
abbrev write_rsh : Shp := [some 2]
abbrev write_rfs : List Lf := [.fi .i64, .fs]
noncomputable def write_r (p_l_x : Bool) (p_l : List Int) (p_n : Int) : Option Ret :=
  oK (numS.dec [AV.ptr 1000000 0 0 0, AV.int IntKind.i64 10] [{ v := 0, k := BK.box, fz := false, sz := 0, es := [AV.slc p_l_x (List.map (mkV false [Lf.fi IntKind.u8]) p_l), AV.int IntKind.i64 p_n] }]) fun (d0 : ((Bool × List Int) × Int) × Int) => oK (numS.dec [AV.ptr 1000000 0 0 0, AV.int IntKind.i64 6] [{ v := 0, k := BK.box, fz := false, sz := 0, es := [AV.slc (numF d0.fst d0.snd).fst.fst.fst (List.map (mkV false [Lf.fi IntKind.u8]) (numF d0.fst d0.snd).fst.fst.snd), AV.int IntKind.i64 (numF d0.fst d0.snd).fst.snd] }]) fun (d1 : ((Bool × List Int) × Int) × Int) => bK (decide (0 ≤ (numF d1.fst d1.snd).snd ∧ (numF d1.fst d1.snd).snd < 6)) (oK (ldRow [Lf.fs] [AV.str [120], AV.str [121, 122], AV.str [104, 101, 108, 108, 111], AV.str [48], AV.str [97, 98, 0, 99, 100], AV.str [102, 111, 117, 114, 116, 101, 101, 110, 32, 98, 121, 116, 101, 115]] (0 + Int.toNat (numF d1.fst d1.snd).snd) 0) fun (d2 : List UInt8) => some { pan := false, res := AV.agg [AV.int IntKind.i64 (numF d0.fst d0.snd).snd, AV.str d2], out := [{ v := 0, k := BK.box, fz := false, sz := 0, es := [AV.slc (numF d1.fst d1.snd).fst.fst.fst (List.map (mkV false [Lf.fi IntKind.u8]) (numF d1.fst d1.snd).fst.fst.snd), AV.int IntKind.i64 (numF d1.fst d1.snd).fst.snd] }], new := [] }) none
theorem write_w (p_l_x : Bool) (p_l : List Int) (p_n : Int) : unitQ Try.prog cfg PK1 LP0 false 30 (.ptr outBase 0 0 0 :: groupA write_sh (Tu.mk write_fs ())) [boxB (Tu.mk write_bs ((p_l_x, p_l), p_n))] = write_r p_l_x p_l p_n := by kernel_rfl

/-- The bytes of what is written. -/
def bodiesL : List (List UInt8) := [[120], [121, 122], [104, 101, 108, 108, 111], [48], [97, 98, 0, 99, 100], [102, 111, 117, 114, 116, 101, 101, 110, 32, 98, 121, 116, 101, 115]]
/-- The next write. -/
def writeF (b : Picks_T) : Picks_T × Write_T := let x := numF b 10; let y := numF x.1 6; (y.1, x.2, bodiesL.getD y.2.toNat [])
def writeS : MS := ⟨write_bs, write_sh, write_fs, write_rsh, write_rfs, fun b _ => pkOk b, fun b _ => writeF b, none⟩
theorem writeF_ok {b : Picks_T} (h : pkOk b) : pkOk (writeF b).1 := numF_ok (numF_ok h)
theorem ldRow_strs (l : List (List UInt8)) (i : Nat) (h : i < l.length) : ldRow [Lf.fs] (l.map AV.str) i 0 = some (l.getD i []) := by
  simp [ldRow, h, ldCells, AV.cells, Tu.dec, Lf.dec, List.getD]
theorem write_v (p_l_x : Bool) (p_l : List Int) (p_n : Int) (h : pkOk ((p_l_x, p_l), p_n)) : write_r p_l_x p_l p_n = some (writeS.ret ((p_l_x, p_l), p_n) ()) := by
  unfold write_r
  refine oK_ms numS ((p_l_x, p_l), p_n) (10 : Int) h ?_
  have h1 := numF_ok (m := 10) h
  refine oK_ms numS (numF ((p_l_x, p_l), p_n) 10).1 (6 : Int) h1 ?_
  have h2 := numF_lt (m := 6) h1 (by omega)
  refine bK_i (fun _ => ?_) (fun c => absurd h2 c)
  refine (oK_pos (ldRow_strs bodiesL _ ?_)).trans ?_
  · show _ < 6
    simp only
    omega
  · rw [Nat.zero_add]; rfl
theorem write_ok : ∀ (b : Tu write_bs) (d : Tu write_fs), writeS.pre b d → unitQ Try.prog cfg PK1 LP0 false 30 (writeS.args d) (writeS.out0 b) = some (writeS.ret b d)
  | ((p_l_x, p_l), p_n), (), h => (write_w p_l_x p_l p_n).trans (write_v p_l_x p_l p_n h)
noncomputable def PK2 : PKs := PK1.add 30 writeS.pk
theorem PK2_ok : PKsOk Try.prog PK2 := PKsOk.ms (cfg := cfg) PK1_ok (fnOk PK1_ok 21) 30 rfl LP0 fLoops_none writeS write_ok

def wsHd0 (b : Picks_T) (i : Int) : St := { fr := [(0, .ptr 1000000 0 0 0), (5, .slc true []), (6, .int .i64 i)], bs := [(1000000, boxB (Tu.mk Picks_tfs b))], df := [] }
def wsHd1 (b : Picks_T) (i : Int) (acc : List Write_T) : St := { fr := [(0, .ptr 1000000 0 0 0), (5, .sref 304 0 0 acc.length), (6, .int .i64 i)], bs := [(304, { v := 0, k := .row, fz := false, sz := 2, es := acc.map (mkV true Write_tfs) }), (1000000, boxB (Tu.mk Picks_tfs b))], df := [] }
noncomputable def ws_0 (x : Bool) (l : List Int) (n i : Int) : Option (St ⊕ (Ex × St)) := stepK Try.prog cfg PK2 LP0 13 0 (wsHd0 ((x, l), n) i)
noncomputable def ws_0_r (x : Bool) (l : List Int) (n : Int) (i : Int) : Option (St ⊕ Ex × St) :=
  bK (decide (0 < i)) (oK (writeS.dec [AV.ptr 1000000 0 0 0] [{ v := 0, k := BK.box, fz := false, sz := 0, es := [AV.slc x (List.map (mkV false [Lf.fi IntKind.u8]) l), AV.int IntKind.i64 n] }]) fun (d0 : ((Bool × List Int) × Int) × PUnit) => some (Sum.inl { fr := [(0, AV.ptr 1000000 0 0 0), (5, AV.sref 304 0 0 1), (6, AV.int IntKind.i64 (IntKind.i64.wrap (i - 1)))], bs := [(304, { v := 0, k := BK.row, fz := false, sz := 2, es := [AV.agg [AV.int IntKind.i64 (writeF d0.fst).snd.fst, AV.str (writeF d0.fst).snd.snd]] }), (1000000, { v := 0, k := BK.box, fz := false, sz := 0, es := [AV.slc (writeF d0.fst).fst.fst.fst (List.map (mkV false [Lf.fi IntKind.u8]) (writeF d0.fst).fst.fst.snd), AV.int IntKind.i64 (writeF d0.fst).fst.snd] })], df := [] })) (some (Sum.inr (Ex.exit 0, { fr := [(5, AV.slc true [])], bs := [(1000000, { v := 0, k := BK.box, fz := false, sz := 0, es := [AV.slc x (List.map (mkV false [Lf.fi IntKind.u8]) l), AV.int IntKind.i64 n] })], df := [] })))
theorem ws_0_w (x : Bool) (l : List Int) (n : Int) (i : Int) : ws_0 x l n i = ws_0_r x l n i := by kernel_rfl

noncomputable def ws_1 (x : Bool) (l : List Int) (n i : Int) (acc : List Write_T) : Option (St ⊕ (Ex × St)) := stepK Try.prog cfg PK2 LP0 13 0 (wsHd1 ((x, l), n) i acc)
noncomputable def ws_1_r (x : Bool) (l : List Int) (n : Int) (i : Int) (acc : List Write_T) : Option (St ⊕ Ex × St) :=
  bK (decide (0 < i)) (oK (writeS.dec [AV.ptr 1000000 0 0 0] [{ v := 0, k := BK.box, fz := false, sz := 0, es := [AV.slc x (List.map (mkV false [Lf.fi IntKind.u8]) l), AV.int IntKind.i64 n] }]) fun (d0 : ((Bool × List Int) × Int) × PUnit) => bK (decide (0 + acc.length ≤ (List.map (mkV true Write_tfs) acc).length)) (bK (decide (0 = 0 ∧ acc.length = (List.map (mkV true Write_tfs) acc).length) && bytesFit Try.prog 26 (acc.length + 1)) (some (Sum.inl { fr := [(0, AV.ptr 1000000 0 0 0), (5, AV.sref 304 0 0 (acc.length + 1)), (6, AV.int IntKind.i64 (IntKind.i64.wrap (i - 1)))], bs := [(304, { v := 0, k := BK.row, fz := false, sz := 2, es := List.take acc.length (List.map (mkV true Write_tfs) acc) ++ [AV.agg [AV.int IntKind.i64 (writeF d0.fst).snd.fst, AV.str (writeF d0.fst).snd.snd]] }), (1000000, { v := 0, k := BK.box, fz := false, sz := 0, es := [AV.slc (writeF d0.fst).fst.fst.fst (List.map (mkV false [Lf.fi IntKind.u8]) (writeF d0.fst).fst.fst.snd), AV.int IntKind.i64 (writeF d0.fst).fst.snd] })], df := [] })) none) none) (some (Sum.inr (Ex.exit 0, { fr := [(5, AV.sref 304 0 0 acc.length)], bs := [(304, { v := 0, k := BK.row, fz := false, sz := 2, es := List.map (mkV true Write_tfs) acc }), (1000000, { v := 0, k := BK.box, fz := false, sz := 0, es := [AV.slc x (List.map (mkV false [Lf.fi IntKind.u8]) l), AV.int IntKind.i64 n] })], df := [] })))
theorem ws_1_w (x : Bool) (l : List Int) (n : Int) (i : Int) (acc : List Write_T) : ws_1 x l n i acc = ws_1_r x l n i acc := by kernel_rfl

/-- So many writes. -/
def writesN : Nat → Picks_T → List Write_T → Picks_T × List Write_T
  | 0, b, acc => (b, acc)
  | k + 1, b, acc => writesN k (writeF b).1 (acc ++ [(writeF b).2])
def wsEnd0 (b : Picks_T) (i : Int) : St := { fr := [(5, .slc true [])], bs := [(1000000, boxB (Tu.mk Picks_tfs b))], df := [] }
def wsEnd1 (b : Picks_T) (acc : List Write_T) : St := { fr := [(5, .sref 304 0 0 acc.length)], bs := [(304, { v := 0, k := .row, fz := false, sz := 2, es := acc.map (mkV true Write_tfs) }), (1000000, boxB (Tu.mk Picks_tfs b))], df := [] }
theorem loops13 : (loopsOf 0 (codeOf Try.prog 13)).map (·.1) = [0] := by kernel_rfl
theorem one13 : OneLoops Try.prog 13 := by unfold OneLoops; rw [loops13]; decide
theorem at13 : At 0 (codeOf Try.prog 13) 0 (.loop (bodyAt Try.prog 13 0)) := at_body one13 (by rw [loops13]; decide)
theorem bytesW : Try.prog.bytesOf 26 = 24 := by kernel_rfl
theorem fitW {n : Nat} (h : n ≤ 1000000) : bytesFit Try.prog 26 n = true := by
  simp only [bytesFit, bytesW, decide_eq_true_eq]; omega
theorem ws_run1 : ∀ (k : Nat) (b : Picks_T) (acc : List Write_T), pkOk b → acc.length + k ≤ 1000 → ∀ m, k < m → Runs' Try.prog cfg PK2 13 0 m (wsHd1 b k acc) (.exit 0, wsEnd1 (writesN k b acc).1 (writesN k b acc).2)
  | 0, ((x, l), n), acc, hb, hl, m + 1, hm => by
    refine Runs'.done (lp := LP0) LPok.none at13 ((ws_1_w x l n 0 acc).trans ?_)
    rfl
  | k + 1, ((x, l), n), acc, hb, hl, m + 1, hm => by
    refine Runs'.step (lp := LP0) LPok.none at13 ((ws_1_w x l n _ acc).trans ?_) (ws_run1 k (writeF ((x, l), n)).1 (acc ++ [(writeF ((x, l), n)).2]) (writeF_ok hb) (by simp; omega) m (by omega))
    unfold ws_1_r
    refine bK_i (fun _ => ?_) (fun c => absurd (by omega) c)
    refine oK_ms writeS ((x, l), n) () hb ?_
    rw [bK_pos (by simp), bK_pos (by simp [fitW (show acc.length + 1 ≤ 1000000 by omega)]), w64 (by omega) (by omega)]
    simp only [wsHd1, List.map_append, List.length_append, List.length_cons, List.length_nil]
    rw [List.take_of_length_le (by simp)]
    have : ((k + 1 : Nat) : Int) - 1 = (k : Int) := by omega
    rw [this]
    rfl
/-- The loop of the writes, as told. -/
noncomputable def wsL : LP := LP.of (D := Picks_T × Int) (fun d => wsHd0 d.1 d.2) (fun d => pkOk d.1 ∧ d.2 ≤ 500) fun d =>
  .ite (decide (d.2 ≤ 0)) (.leaf (.exit 0, wsEnd0 d.1 d.2)) (.leaf (.exit 0, wsEnd1 (writesN d.2.toNat d.1 []).1 (writesN d.2.toNat d.1 []).2))
noncomputable def LP1 : LPs := LPs.add LP0 13 0 wsL
theorem writesN_len : ∀ (k : Nat) (b : Picks_T) (acc : List Write_T), (writesN k b acc).2.length = acc.length + k
  | 0, b, acc => rfl
  | k + 1, b, acc => by rw [writesN, writesN_len k]; simp; omega
theorem writesN_ok : ∀ (k : Nat) (b : Picks_T) (acc : List Write_T), pkOk b → pkOk (writesN k b acc).1
  | 0, b, acc, h => h
  | k + 1, b, acc, h => writesN_ok k _ _ (writeF_ok h)
theorem LP1_ok : LPok Try.prog cfg PK2 LP1 13 := by
  refine LPok.addH LPok.none one13 ?_
  rintro ⟨⟨⟨x, l⟩, n⟩, i⟩ ⟨h, hi⟩
  simp only at h hi ⊢
  by_cases hi0 : i ≤ 0
  · refine Runs'.done (lp := LP0) (k := rounds - 1) LPok.none at13 ((ws_0_w x l n i).trans ?_)
    unfold ws_0_r
    refine bK_i (fun c => by omega) (fun _ => ?_)
    simp only [Alt.val, hi0, decide_true, if_true]
    rfl
  · obtain ⟨k, rfl⟩ : ∃ k : Nat, i = ((k + 1 : Nat) : Int) := ⟨(i - 1).toNat, by omega⟩
    simp only [Alt.val, hi0, decide_false, Bool.false_eq_true, if_false]
    refine Runs'.step (lp := LP0) (k := rounds - 1) LPok.none at13 ((ws_0_w x l n _).trans ?_) (ws_run1 k (writeF ((x, l), n)).1 ([(writeF ((x, l), n)).2]) (writeF_ok h) (by simp; omega) (rounds - 1) (by simp [rounds]; omega))
    unfold ws_0_r
    refine bK_i (fun _ => ?_) (fun c => absurd (by omega) c)
    refine oK_ms writeS ((x, l), n) () h ?_
    rw [w64 (by omega) (by omega)]
    have : ((k + 1 : Nat) : Int) - 1 = (k : Int) := by omega
    rw [this]
    rfl
abbrev writes_id : Nat := 13
abbrev writes_sh : Shp := [none]
abbrev writes_fs : List Lf := [.fi .i64]
abbrev writes_bs : List Lf := [.fl false [.fi .u8], .fi .i64]
abbrev writes_rsh : Shp := [none]
abbrev writes_rfs : List Lf := [.fl true Write_tfs]
noncomputable def writes_r (p_l_x : Bool) (p_l : List Int) (p_n : Int) (most : Int) : Option Ret :=
  oK (numS.dec [AV.ptr 1000000 0 0 0, AV.int IntKind.i64 (IntKind.i64.wrap (most + 1))] [{ v := 0, k := BK.box, fz := false, sz := 0, es := [AV.slc p_l_x (List.map (mkV false [Lf.fi IntKind.u8]) p_l), AV.int IntKind.i64 p_n] }]) fun (d0 : ((Bool × List Int) × Int) × Int) =>
  oK (wsL.dec { fr := [(0, AV.ptr 1000000 0 0 0), (5, AV.slc true []), (6, AV.int IntKind.i64 (numF d0.fst d0.snd).snd)], bs := [(1000000, { v := 0, k := BK.box, fz := false, sz := 0, es := [AV.slc (numF d0.fst d0.snd).fst.fst.fst (List.map (mkV false [Lf.fi IntKind.u8]) (numF d0.fst d0.snd).fst.fst.snd), AV.int IntKind.i64 (numF d0.fst d0.snd).fst.snd] })], df := [] }) fun (d1 : ((Bool × List Int) × Int) × Int) => bK (decide (d1.snd ≤ 0)) (some { pan := false, res := AV.slc true [], out := [{ v := 0, k := BK.box, fz := false, sz := 0, es := [AV.slc d1.fst.fst.fst (List.map (mkV false [Lf.fi IntKind.u8]) d1.fst.fst.snd), AV.int IntKind.i64 d1.fst.snd] }], new := [] }) (bK (decide (0 + (writesN d1.snd.toNat d1.fst []).snd.length ≤ (List.map (mkV true Write_tfs) (writesN d1.snd.toNat d1.fst []).snd).length)) (some { pan := false, res := AV.slc false (List.take (writesN d1.snd.toNat d1.fst []).snd.length (List.drop 0 (List.map (mkV true Write_tfs) (writesN d1.snd.toNat d1.fst []).snd))), out := [{ v := 0, k := BK.box, fz := false, sz := 0, es := [AV.slc (writesN d1.snd.toNat d1.fst []).fst.fst.fst (List.map (mkV false [Lf.fi IntKind.u8]) (writesN d1.snd.toNat d1.fst []).fst.fst.snd), AV.int IntKind.i64 (writesN d1.snd.toNat d1.fst []).fst.snd] }], new := [] }) none)
theorem writes_w (p_l_x : Bool) (p_l : List Int) (p_n : Int) (most : Int) : unitQ Try.prog cfg PK2 LP1 false 13 (.ptr outBase 0 0 0 :: groupA writes_sh (Tu.mk writes_fs most)) [boxB (Tu.mk writes_bs ((p_l_x, p_l), p_n))] = writes_r p_l_x p_l p_n most := by kernel_rfl

theorem wsHd0_inj (d d' : Picks_T × Int) (h : wsHd0 d.1 d.2 = wsHd0 d'.1 d'.2) : d = d' := by
  obtain ⟨⟨⟨x, l⟩, n⟩, i⟩ := d
  obtain ⟨⟨⟨x', l'⟩, n'⟩, i'⟩ := d'
  simp only [wsHd0, boxB, St.mk.injEq, List.cons.injEq, Prod.mk.injEq, Blk.mk.injEq, AV.int.injEq, and_true, true_and] at h
  obtain ⟨h1, h2⟩ := h
  have := mk_inj (fs := Picks_tfs) rfl h2
  rw [this, h1]
/-- So many writes, of at most so many. -/
def writesF (b : Picks_T) (most : Int) : Picks_T × (Bool × List Write_T) := let x := numF b (most + 1); (let y := writesN x.2.toNat x.1 []; (y.1, (decide (x.2 ≤ 0), y.2)))
theorem writesF_ok {b : Picks_T} {most : Int} (h : pkOk b) : pkOk (writesF b most).1 := writesN_ok _ _ _ (numF_ok h)
theorem writesF_len {b : Picks_T} {most : Int} (h : pkOk b) (hm : 0 ≤ most) : ((writesF b most).2.2.length : Int) ≤ most := by
  have h2 := numF_lt (m := most + 1) h (by omega)
  unfold writesF
  simp only [writesN_len]
  simp
  omega
def writesS : MS := ⟨writes_bs, writes_sh, writes_fs, writes_rsh, writes_rfs, fun b most => pkOk b ∧ 0 ≤ (most : Int) ∧ (most : Int) ≤ 100, writesF, none⟩
theorem writes_v (p_l_x : Bool) (p_l : List Int) (p_n : Int) (most : Int) (h : writesS.pre ((p_l_x, p_l), p_n) most) : writes_r p_l_x p_l p_n most = some (writesS.ret ((p_l_x, p_l), p_n) most) := by
  obtain ⟨h, hm0, hm1⟩ := h
  have hm0 : 0 ≤ most := hm0
  have hm1 : most ≤ 100 := hm1
  have hw : IntKind.i64.wrap (most + 1) = most + 1 := w64 (by omega) (by omega)
  unfold writes_r
  rw [hw]
  refine oK_ms numS ((p_l_x, p_l), p_n) (most + 1 : Int) h ?_
  have h1 := numF_ok (m := most + 1) h
  have h2 := numF_lt (m := most + 1) h (by omega)
  refine oK_lp wsHd0_inj (numF ((p_l_x, p_l), p_n) (most + 1)) ⟨h1, by omega⟩ ?_
  show _ = some (writesS.out (writesF ((p_l_x, p_l), p_n) most))
  unfold writesF
  simp only
  generalize numF ((p_l_x, p_l), p_n) (most + 1) = z at h1 h2 ⊢
  refine bK_i (fun c => ?_) (fun c => ?_)
  · have : z.2.toNat = 0 := by omega
    simp only [this, c, decide_true]
    rfl
  · generalize writesN z.2.toNat z.1 [] = y
    obtain ⟨b, l⟩ := y
    refine (bK_pos (by simp)).trans ?_
    have e : List.take l.length (List.drop 0 (List.map (mkV true Write_tfs) l)) = List.map (mkV true Write_tfs) l := by rw [List.drop_zero, List.take_of_length_le (by simp)]
    simp only [e, decide_eq_false c]
    rfl
theorem writes_ok : ∀ (b : Tu writes_bs) (d : Tu writes_fs), writesS.pre b d → unitQ Try.prog cfg PK2 LP1 false 13 (writesS.args d) (writesS.out0 b) = some (writesS.ret b d)
  | ((p_l_x, p_l), p_n), most, h => (writes_w p_l_x p_l p_n most).trans (writes_v p_l_x p_l p_n most h)
noncomputable def PK3 : PKs := PK2.add 13 writesS.pk
theorem PK3_ok : PKsOk Try.prog PK3 := PKsOk.ms (cfg := cfg) PK2_ok (fnOk PK2_ok 21) 13 rfl LP1 LP1_ok.loops writesS writes_ok

abbrev over_id : Nat := 31
abbrev over_sh : Shp := []
abbrev over_fs : List Lf := []
abbrev over_bs : List Lf := [.fl false [.fi .u8], .fi .i64]
abbrev over_rsh : Shp := [none]
abbrev over_rfs : List Lf := [.fb]
noncomputable def over_r (p_l_x : Bool) (p_l : List Int) (p_n : Int) : Option Ret :=
  some { pan := false, res := AV.bool (decide ((↑(List.map (mkV false [Lf.fi IntKind.u8]) p_l).length : Int) ≤ p_n)), out := [{ v := 0, k := BK.box, fz := false, sz := 0, es := [AV.slc p_l_x (List.map (mkV false [Lf.fi IntKind.u8]) p_l), AV.int IntKind.i64 p_n] }], new := [] }
theorem over_w (p_l_x : Bool) (p_l : List Int) (p_n : Int) : unitQ Try.prog cfg PK3 LP0 false 31 (.ptr outBase 0 0 0 :: groupA over_sh (Tu.mk over_fs ())) [boxB (Tu.mk over_bs ((p_l_x, p_l), p_n))] = over_r p_l_x p_l p_n := by kernel_rfl

def overS : MS := ⟨over_bs, over_sh, over_fs, over_rsh, over_rfs, fun _ _ => True, fun b _ => (b, decide ((b.1.2.length : Int) ≤ b.2)), none⟩
theorem over_v (p_l_x : Bool) (p_l : List Int) (p_n : Int) (h : True) : over_r p_l_x p_l p_n = some (overS.ret ((p_l_x, p_l), p_n) ()) := by
  unfold over_r
  rw [List.length_map]
  rfl
theorem over_ok : ∀ (b : Tu over_bs) (d : Tu over_fs), overS.pre b d → unitQ Try.prog cfg PK3 LP0 false 31 (overS.args d) (overS.out0 b) = some (overS.ret b d)
  | ((p_l_x, p_l), p_n), (), h => (over_w p_l_x p_l p_n).trans (over_v p_l_x p_l p_n h)
noncomputable def PK4 : PKs := PK3.add 31 overS.pk
theorem PK4_ok : PKsOk Try.prog PK4 := PKsOk.ms (cfg := cfg) PK3_ok (fnOk PK3_ok 21) 31 rfl LP0 fLoops_none overS over_ok

abbrev name_id : Nat := 12
abbrev name_sh : Shp := []
abbrev name_fs : List Lf := []
abbrev name_bs : List Lf := [.fl false [.fi .u8], .fi .i64]
abbrev name_rsh : Shp := [none]
abbrev name_rfs : List Lf := [.fs]
noncomputable def name_r (p_l_x : Bool) (p_l : List Int) (p_n : Int) : Option Ret :=
  oK (numS.dec [AV.ptr 1000000 0 0 0, AV.int IntKind.i64 10] [{ v := 0, k := BK.box, fz := false, sz := 0, es := [AV.slc p_l_x (List.map (mkV false [Lf.fi IntKind.u8]) p_l), AV.int IntKind.i64 p_n] }]) fun (d0 : ((Bool × List Int) × Int) × Int) => bK (decide (0 ≤ (numF d0.fst d0.snd).snd ∧ (numF d0.fst d0.snd).snd < 10)) (oK (ldRow [Lf.fs] [AV.str [97], AV.str [98], AV.str [99], AV.str [110, 111, 116, 101, 115], AV.str [108, 111, 103], AV.str [120, 47, 121], AV.str [115, 101, 118, 101, 110, 55, 55], AV.str [], AV.str [97, 32, 98], AV.str [110, 105, 110, 101, 99, 104, 97, 114, 115]] (0 + Int.toNat (numF d0.fst d0.snd).snd) 0) fun (d1 : List UInt8) => some { pan := false, res := AV.str d1, out := [{ v := 0, k := BK.box, fz := false, sz := 0, es := [AV.slc (numF d0.fst d0.snd).fst.fst.fst (List.map (mkV false [Lf.fi IntKind.u8]) (numF d0.fst d0.snd).fst.fst.snd), AV.int IntKind.i64 (numF d0.fst d0.snd).fst.snd] }], new := [] }) none
theorem name_w (p_l_x : Bool) (p_l : List Int) (p_n : Int) : unitQ Try.prog cfg PK4 LP0 false 12 (.ptr outBase 0 0 0 :: groupA name_sh (Tu.mk name_fs ())) [boxB (Tu.mk name_bs ((p_l_x, p_l), p_n))] = name_r p_l_x p_l p_n := by kernel_rfl

/-- Names. -/
def namesL : List (List UInt8) := [[97], [98], [99], [110, 111, 116, 101, 115], [108, 111, 103], [120, 47, 121], [115, 101, 118, 101, 110, 55, 55], [], [97, 32, 98], [110, 105, 110, 101, 99, 104, 97, 114, 115]]
def nameF (b : Picks_T) : Picks_T × List UInt8 := let x := numF b 10; (x.1, namesL.getD x.2.toNat [])
theorem nameF_ok {b : Picks_T} (h : pkOk b) : pkOk (nameF b).1 := numF_ok h
theorem nameF_len (b : Picks_T) : (nameF b).2.length ≤ 9 := by
  have : ∀ n : Nat, (namesL.getD n []).length ≤ 9 := fun n => by
    match n with
    | 0 | 1 | 2 | 3 | 4 | 5 | 6 | 7 | 8 | 9 => decide
    | n + 10 => simp [namesL]
  exact this _
def nameS : MS := ⟨name_bs, name_sh, name_fs, name_rsh, name_rfs, fun b _ => pkOk b, fun b _ => nameF b, none⟩
theorem name_v (p_l_x : Bool) (p_l : List Int) (p_n : Int) (h : pkOk ((p_l_x, p_l), p_n)) : name_r p_l_x p_l p_n = some (nameS.ret ((p_l_x, p_l), p_n) ()) := by
  unfold name_r
  refine oK_ms numS ((p_l_x, p_l), p_n) (10 : Int) h ?_
  have h2 := numF_lt (m := 10) h (by omega)
  refine bK_i (fun _ => ?_) (fun c => absurd h2 c)
  refine (oK_pos (ldRow_strs namesL _ ?_)).trans ?_
  · show _ < 10
    simp only
    omega
  · rw [Nat.zero_add]; rfl
theorem name_ok : ∀ (b : Tu name_bs) (d : Tu name_fs), nameS.pre b d → unitQ Try.prog cfg PK4 LP0 false 12 (nameS.args d) (nameS.out0 b) = some (nameS.ret b d)
  | ((p_l_x, p_l), p_n), (), h => (name_w p_l_x p_l p_n).trans (name_v p_l_x p_l p_n h)
noncomputable def PK5 : PKs := PK4.add 12 nameS.pk
theorem PK5_ok : PKsOk Try.prog PK5 := PKsOk.ms (cfg := cfg) PK4_ok (fnOk PK4_ok 21) 12 rfl LP0 fLoops_none nameS name_ok

end Go.Proofs.Ytihgfpggdkhhaaa
