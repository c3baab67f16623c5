/- A part of the proof: contracts of functions. -/
import Derived.Test.YtjohkibidibihaaP
import Derived.Test.YtjohkibidibihaaAbLp
set_option linter.unusedVariables false
set_option linter.unusedSimpArgs false
set_option maxRecDepth 100000
namespace Go.Proofs.Ytjohkibidibihaa
open Go Go.Ab
def wsHd0 (b : Picks_T) (i : Int) : St := { fr := [(0, .ptr 1000000 0 0 0), (5, .slc true []), (6, .int .i64 i)], bs := [(1000000, boxB (Tu.mk Picks_tfs b))], df := [] }
def wsHd1 (b : Picks_T) (i : Int) (acc : List Write_T) : St := { fr := [(0, .ptr 1000000 0 0 0), (5, .sref 304 0 0 acc.length), (6, .int .i64 i)], bs := [(304, { v := 0, k := .row, fz := false, sz := 2, es := acc.map (mkV true Write_tfs) }), (1000000, boxB (Tu.mk Picks_tfs b))], df := [] }
noncomputable def ws_0 (x : Bool) (l : List Int) (n i : Int) : Option (St ⊕ (Ex × St)) := stepK Try.prog cfg PK2 LP0 15 0 (wsHd0 ((x, l), n) i)
noncomputable def ws_0_r (x : Bool) (l : List Int) (n : Int) (i : Int) : Option (St ⊕ Ex × St) :=
  bK (decide (0 < i))
  (oK
    (writeS.dec [AV.ptr 1000000 0 0 0]
      [{ v := 0, k := BK.box, fz := false, sz := 0,
          es := [AV.slc x (List.map (mkV false [Lf.fi IntKind.u8]) l), AV.int IntKind.i64 n] }])
    fun (d0 : ((Bool × List Int) × Int) × PUnit) =>
    some
      (Sum.inl
        { fr := [(0, AV.ptr 1000000 0 0 0), (5, AV.sref 304 0 0 1), (6, AV.int IntKind.i64 (IntKind.i64.wrap (i - 1)))],
          bs :=
            [(304,
                { v := 0, k := BK.row, fz := false, sz := 2,
                  es := [AV.agg [AV.int IntKind.i64 (writeF d0.fst).snd.fst, AV.str (writeF d0.fst).snd.snd]] }),
              (1000000,
                { v := 0, k := BK.box, fz := false, sz := 0,
                  es :=
                    [AV.slc (writeF d0.fst).fst.fst.fst
                        (List.map (mkV false [Lf.fi IntKind.u8]) (writeF d0.fst).fst.fst.snd),
                      AV.int IntKind.i64 (writeF d0.fst).fst.snd] })],
          df := [] }))
  (some
    (Sum.inr
      (Ex.exit 0,
        { fr := [(5, AV.slc true [])],
          bs :=
            [(1000000,
                { v := 0, k := BK.box, fz := false, sz := 0,
                  es := [AV.slc x (List.map (mkV false [Lf.fi IntKind.u8]) l), AV.int IntKind.i64 n] })],
          df := [] })))
theorem ws_0_w (x : Bool) (l : List Int) (n : Int) (i : Int) : ws_0 x l n i = ws_0_r x l n i := by kernel_rfl

noncomputable def ws_1 (x : Bool) (l : List Int) (n i : Int) (acc : List Write_T) : Option (St ⊕ (Ex × St)) := stepK Try.prog cfg PK2 LP0 15 0 (wsHd1 ((x, l), n) i acc)
noncomputable def ws_1_r (x : Bool) (l : List Int) (n : Int) (i : Int) (acc : List Write_T) : Option (St ⊕ Ex × St) :=
  bK (decide (0 < i))
  (oK
    (writeS.dec [AV.ptr 1000000 0 0 0]
      [{ v := 0, k := BK.box, fz := false, sz := 0,
          es := [AV.slc x (List.map (mkV false [Lf.fi IntKind.u8]) l), AV.int IntKind.i64 n] }])
    fun (d0 : ((Bool × List Int) × Int) × PUnit) =>
    bK (decide (0 + acc.length ≤ (List.map (mkV true Write_tfs) acc).length))
      (bK
        (decide (0 = 0 ∧ acc.length = (List.map (mkV true Write_tfs) acc).length) &&
          bytesFit Try.prog 59 (acc.length + 1))
        (some
          (Sum.inl
            {
              fr :=
                [(0, AV.ptr 1000000 0 0 0), (5, AV.sref 304 0 0 (acc.length + 1)),
                  (6, AV.int IntKind.i64 (IntKind.i64.wrap (i - 1)))],
              bs :=
                [(304,
                    { v := 0, k := BK.row, fz := false, sz := 2,
                      es :=
                        List.take acc.length (List.map (mkV true Write_tfs) acc) ++
                          [AV.agg [AV.int IntKind.i64 (writeF d0.fst).snd.fst, AV.str (writeF d0.fst).snd.snd]] }),
                  (1000000,
                    { v := 0, k := BK.box, fz := false, sz := 0,
                      es :=
                        [AV.slc (writeF d0.fst).fst.fst.fst
                            (List.map (mkV false [Lf.fi IntKind.u8]) (writeF d0.fst).fst.fst.snd),
                          AV.int IntKind.i64 (writeF d0.fst).fst.snd] })],
              df := [] }))
        none)
      none)
  (some
    (Sum.inr
      (Ex.exit 0,
        { fr := [(5, AV.sref 304 0 0 acc.length)],
          bs :=
            [(304, { v := 0, k := BK.row, fz := false, sz := 2, es := List.map (mkV true Write_tfs) acc }),
              (1000000,
                { v := 0, k := BK.box, fz := false, sz := 0,
                  es := [AV.slc x (List.map (mkV false [Lf.fi IntKind.u8]) l), AV.int IntKind.i64 n] })],
          df := [] })))
theorem ws_1_w (x : Bool) (l : List Int) (n : Int) (i : Int) (acc : List Write_T) : ws_1 x l n i acc = ws_1_r x l n i acc := by kernel_rfl

/-- So many writes. -/
def writesN : Nat → Picks_T → List Write_T → Picks_T × List Write_T
  | 0, b, acc => (b, acc)
  | k + 1, b, acc => writesN k (writeF b).1 (acc ++ [(writeF b).2])
def wsEnd0 (b : Picks_T) (i : Int) : St := { fr := [(5, .slc true [])], bs := [(1000000, boxB (Tu.mk Picks_tfs b))], df := [] }
def wsEnd1 (b : Picks_T) (acc : List Write_T) : St := { fr := [(5, .sref 304 0 0 acc.length)], bs := [(304, { v := 0, k := .row, fz := false, sz := 2, es := acc.map (mkV true Write_tfs) }), (1000000, boxB (Tu.mk Picks_tfs b))], df := [] }
theorem loops15 : (loopsOf 0 (codeOf Try.prog 15)).map (·.1) = [0] := by kernel_rfl
theorem one15 : OneLoops Try.prog 15 := by unfold OneLoops; rw [loops15]; decide
theorem at15 : At 0 (codeOf Try.prog 15) 0 (.loop (bodyAt Try.prog 15 0)) := at_body one15 (by rw [loops15]; decide)
theorem bytes59 : Try.prog.bytesOf 59 = 24 := by kernel_rfl
theorem fit59 {n : Nat} (h : n ≤ 1000000) : bytesFit Try.prog 59 n = true := by
  simp only [bytesFit, bytes59, decide_eq_true_eq]; omega
theorem ws_run1 : ∀ (k : Nat) (b : Picks_T) (acc : List Write_T), pkOk b → acc.length + k ≤ 1000 → ∀ m, k < m → Runs' Try.prog cfg PK2 15 0 m (wsHd1 b k acc) (.exit 0, wsEnd1 (writesN k b acc).1 (writesN k b acc).2)
  | 0, ((x, l), n), acc, hb, hl, m + 1, hm => by
    refine Runs'.done (lp := LP0) LPok.none at15 ((ws_1_w x l n 0 acc).trans ?_)
    rfl
  | k + 1, ((x, l), n), acc, hb, hl, m + 1, hm => by
    refine Runs'.step (lp := LP0) LPok.none at15 ((ws_1_w x l n _ acc).trans ?_) (ws_run1 k (writeF ((x, l), n)).1 (acc ++ [(writeF ((x, l), n)).2]) (writeF_ok hb) (by simp; omega) m (by omega))
    unfold ws_1_r
    refine bK_i (fun _ => ?_) (fun c => absurd (by omega) c)
    refine oK_ms writeS ((x, l), n) () hb ?_
    rw [bK_pos (by simp), bK_pos (by simp [fit59 (show acc.length + 1 ≤ 1000000 by omega)]), w64 (by omega) (by omega)]
    simp only [wsHd1, List.map_append, List.length_append, List.length_cons, List.length_nil]
    rw [List.take_of_length_le (by simp)]
    have : ((k + 1 : Nat) : Int) - 1 = (k : Int) := by omega
    rw [this]
    rfl
/-- The loop of the writes, as told. -/
noncomputable def wsL : LP := LP.of (D := Picks_T × Int) (fun d => wsHd0 d.1 d.2) (fun d => pkOk d.1 ∧ d.2 ≤ 500) fun d =>
  .ite (decide (d.2 ≤ 0)) (.leaf (.exit 0, wsEnd0 d.1 d.2)) (.leaf (.exit 0, wsEnd1 (writesN d.2.toNat d.1 []).1 (writesN d.2.toNat d.1 []).2))
noncomputable def LP1 : LPs := LPs.add LP0 15 0 wsL
theorem writesN_len : ∀ (k : Nat) (b : Picks_T) (acc : List Write_T), (writesN k b acc).2.length = acc.length + k
  | 0, b, acc => rfl
  | k + 1, b, acc => by rw [writesN, writesN_len k]; simp; omega
theorem writesN_ok : ∀ (k : Nat) (b : Picks_T) (acc : List Write_T), pkOk b → pkOk (writesN k b acc).1
  | 0, b, acc, h => h
  | k + 1, b, acc, h => writesN_ok k _ _ (writeF_ok h)
theorem LP1_ok : LPok Try.prog cfg PK2 LP1 15 := by
  refine LPok.addH LPok.none one15 ?_
  rintro ⟨⟨⟨x, l⟩, n⟩, i⟩ ⟨h, hi⟩
  simp only at h hi ⊢
  by_cases hi0 : i ≤ 0
  · refine Runs'.done (lp := LP0) (k := rounds - 1) LPok.none at15 ((ws_0_w x l n i).trans ?_)
    unfold ws_0_r
    refine bK_i (fun c => by omega) (fun _ => ?_)
    simp only [Alt.val, hi0, decide_true, if_true]
    rfl
  · obtain ⟨k, rfl⟩ : ∃ k : Nat, i = ((k + 1 : Nat) : Int) := ⟨(i - 1).toNat, by omega⟩
    simp only [Alt.val, hi0, decide_false, Bool.false_eq_true, if_false]
    refine Runs'.step (lp := LP0) (k := rounds - 1) LPok.none at15 ((ws_0_w x l n _).trans ?_) (ws_run1 k (writeF ((x, l), n)).1 ([(writeF ((x, l), n)).2]) (writeF_ok h) (by simp; omega) (rounds - 1) (by simp [rounds]; omega))
    unfold ws_0_r
    refine bK_i (fun _ => ?_) (fun c => absurd (by omega) c)
    refine oK_ms writeS ((x, l), n) () h ?_
    rw [w64 (by omega) (by omega)]
    have : ((k + 1 : Nat) : Int) - 1 = (k : Int) := by omega
    rw [this]
    rfl
abbrev writes_id : Nat := 15
abbrev writes_sh : Shp := [none]
abbrev writes_fs : List Lf := [.fi .i64]
abbrev writes_bs : List Lf := [.fl false [.fi .u8], .fi .i64]
abbrev writes_rsh : Shp := [none]
abbrev writes_rfs : List Lf := [.fl true Write_tfs]
noncomputable def writes_r (p_l_x : Bool) (p_l : List Int) (p_n : Int) (most : Int) : Option Ret :=
  oK
  (numS.dec [AV.ptr 1000000 0 0 0, AV.int IntKind.i64 (IntKind.i64.wrap (most + 1))]
    [{ v := 0, k := BK.box, fz := false, sz := 0,
        es := [AV.slc p_l_x (List.map (mkV false [Lf.fi IntKind.u8]) p_l), AV.int IntKind.i64 p_n] }])
  fun (d0 : ((Bool × List Int) × Int) × Int) =>
  oK
    (wsL.dec
      { fr := [(0, AV.ptr 1000000 0 0 0), (5, AV.slc true []), (6, AV.int IntKind.i64 (numF d0.fst d0.snd).snd)],
        bs :=
          [(1000000,
              { v := 0, k := BK.box, fz := false, sz := 0,
                es :=
                  [AV.slc (numF d0.fst d0.snd).fst.fst.fst
                      (List.map (mkV false [Lf.fi IntKind.u8]) (numF d0.fst d0.snd).fst.fst.snd),
                    AV.int IntKind.i64 (numF d0.fst d0.snd).fst.snd] })],
        df := [] })
    fun (d1 : ((Bool × List Int) × Int) × Int) =>
    bK (decide (d1.snd ≤ 0))
      (some
        { pan := false, res := AV.slc true [],
          out :=
            [{ v := 0, k := BK.box, fz := false, sz := 0,
                es :=
                  [AV.slc d1.fst.fst.fst (List.map (mkV false [Lf.fi IntKind.u8]) d1.fst.fst.snd),
                    AV.int IntKind.i64 d1.fst.snd] }],
          new := [] })
      (some
        { pan := false, res := AV.sref 2000000 0 0 (writesN d1.snd.toNat d1.fst []).snd.length,
          out :=
            [{ v := 0, k := BK.box, fz := false, sz := 0,
                es :=
                  [AV.slc (writesN d1.snd.toNat d1.fst []).fst.fst.fst
                      (List.map (mkV false [Lf.fi IntKind.u8]) (writesN d1.snd.toNat d1.fst []).fst.fst.snd),
                    AV.int IntKind.i64 (writesN d1.snd.toNat d1.fst []).fst.snd] }],
          new :=
            [{ v := 0, k := BK.row, fz := false, sz := 2,
                es := List.map (mkV true Write_tfs) (writesN d1.snd.toNat d1.fst []).snd }] })
theorem writes_w (p_l_x : Bool) (p_l : List Int) (p_n : Int) (most : Int) : unitQ Try.prog cfg PK2 LP1 true 15 (.ptr outBase 0 0 0 :: groupA writes_sh (Tu.mk writes_fs most)) [boxB (Tu.mk writes_bs ((p_l_x, p_l), p_n))] = writes_r p_l_x p_l p_n most := by kernel_rfl

theorem wsHd0_inj (d d' : Picks_T × Int) (h : wsHd0 d.1 d.2 = wsHd0 d'.1 d'.2) : d = d' := by
  obtain ⟨⟨⟨x, l⟩, n⟩, i⟩ := d
  obtain ⟨⟨⟨x', l'⟩, n'⟩, i'⟩ := d'
  simp only [wsHd0, boxB, St.mk.injEq, List.cons.injEq, Prod.mk.injEq, Blk.mk.injEq, AV.int.injEq, and_true, true_and] at h
  obtain ⟨h1, h2⟩ := h
  have := mk_inj (fs := Picks_tfs) rfl h2
  rw [this, h1]
/-- So many writes, of at most so many. -/
def writesF (b : Picks_T) (most : Int) : Picks_T × (Bool × List Write_T) := let x := numF b (most + 1); (let y := writesN x.2.toNat x.1 []; (y.1, (decide (x.2 ≤ 0), y.2)))
theorem writesF_ok {b : Picks_T} {most : Int} (h : pkOk b) : pkOk (writesF b most).1 := writesN_ok _ _ _ (numF_ok h)
theorem writesF_len {b : Picks_T} {most : Int} (h : pkOk b) (hm : 0 ≤ most) : ((writesF b most).2.2.length : Int) ≤ most := by
  have h2 := numF_lt (m := most + 1) h (by omega)
  unfold writesF
  simp only [writesN_len]
  simp
  omega
def writesS : MS := ⟨writes_bs, writes_sh, writes_fs, writes_rsh, writes_rfs, fun b most => pkOk b ∧ 0 ≤ (most : Int) ∧ (most : Int) ≤ 100, writesF, some (0, 2)⟩
theorem writes_v (p_l_x : Bool) (p_l : List Int) (p_n : Int) (most : Int) (h : writesS.pre ((p_l_x, p_l), p_n) most) : writes_r p_l_x p_l p_n most = some (writesS.ret ((p_l_x, p_l), p_n) most) := by
  obtain ⟨h, hm0, hm1⟩ := h
  have hm0 : 0 ≤ most := hm0
  have hm1 : most ≤ 100 := hm1
  have hw : IntKind.i64.wrap (most + 1) = most + 1 := w64 (by omega) (by omega)
  unfold writes_r
  rw [hw]
  refine oK_ms numS ((p_l_x, p_l), p_n) (most + 1 : Int) h ?_
  have h1 := numF_ok (m := most + 1) h
  have h2 := numF_lt (m := most + 1) h (by omega)
  refine oK_lp wsHd0_inj (numF ((p_l_x, p_l), p_n) (most + 1)) ⟨h1, by omega⟩ ?_
  show _ = some (ownAlt (some (0, 2)) writes_rsh (Tu.mk writes_rfs (writesF ((p_l_x, p_l), p_n) most).2) [boxB (Tu.mk writes_bs (writesF ((p_l_x, p_l), p_n) most).1)]).val
  unfold writesF
  simp only
  generalize numF ((p_l_x, p_l), p_n) (most + 1) = z at h1 h2 ⊢
  refine bK_i (fun c => ?_) (fun c => ?_)
  · have : z.2.toNat = 0 := by omega
    simp only [this, c, decide_true]
    rfl
  · have hl := writesN_len z.2.toNat z.1 []
    generalize writesN z.2.toNat z.1 [] = y at hl ⊢
    obtain ⟨b, l⟩ := y
    match l, hl with
    | [], hl => simp at hl; omega
    | w :: l, hl =>
      refine Eq.trans ?_ (congrArg some (own_one (f := mkV true Write_tfs) (sz := 2) (x := decide (z.2 ≤ 0)) (l := w :: l) (out := [boxB (Tu.mk writes_bs b)])).symm)
      rfl
theorem writes_ok : ∀ (b : Tu writes_bs) (d : Tu writes_fs), writesS.pre b d → unitQ Try.prog cfg PK2 LP1 true 15 (writesS.args d) (writesS.out0 b) = some (writesS.ret b d)
  | ((p_l_x, p_l), p_n), most, h => (writes_w p_l_x p_l p_n most).trans (writes_v p_l_x p_l p_n most h)
noncomputable def PK3 : PKs := PK2.add 15 writesS.pk
theorem PK3_ok : PKsOk Try.prog PK3 := PKsOk.ms (cfg := cfg) PK2_ok (fnOk PK2_ok 21) 15 rfl LP1 LP1_ok.loops writesS writes_ok

abbrev ask_id : Nat := 9
abbrev ask_sh : Shp := []
abbrev ask_fs : List Lf := []
abbrev ask_bs : List Lf := [.fl false [.fi .u8], .fi .i64]
abbrev ask_rsh : Shp := [some 8]
abbrev ask_rfs : List Lf := [.fi .i64, .fi .i64, .fi .i64, .fi .i64, .fs, .fi .i64, .fi .i64, .fl true Write_tfs]
noncomputable def ask_r (p_l_x : Bool) (p_l : List Int) (p_n : Int) : Option Ret :=
  oK
  (numS.dec [AV.ptr 1000000 0 0 0, AV.int IntKind.i64 5]
    [{ v := 0, k := BK.box, fz := false, sz := 0,
        es := [AV.slc p_l_x (List.map (mkV false [Lf.fi IntKind.u8]) p_l), AV.int IntKind.i64 p_n] }])
  fun (d0 : ((Bool × List Int) × Int) × Int) =>
  oK
    (numS.dec [AV.ptr 1000000 0 0 0, AV.int IntKind.i64 3]
      [{ v := 0, k := BK.box, fz := false, sz := 0,
          es :=
            [AV.slc (numF d0.fst d0.snd).fst.fst.fst
                (List.map (mkV false [Lf.fi IntKind.u8]) (numF d0.fst d0.snd).fst.fst.snd),
              AV.int IntKind.i64 (numF d0.fst d0.snd).fst.snd] }])
    fun (d1 : ((Bool × List Int) × Int) × Int) =>
    oK
      (numS.dec [AV.ptr 1000000 0 0 0, AV.int IntKind.i64 3]
        [{ v := 0, k := BK.box, fz := false, sz := 0,
            es :=
              [AV.slc (numF d1.fst d1.snd).fst.fst.fst
                  (List.map (mkV false [Lf.fi IntKind.u8]) (numF d1.fst d1.snd).fst.fst.snd),
                AV.int IntKind.i64 (numF d1.fst d1.snd).fst.snd] }])
      fun (d2 : ((Bool × List Int) × Int) × Int) =>
      oK
        (numS.dec [AV.ptr 1000000 0 0 0, AV.int IntKind.i64 20]
          [{ v := 0, k := BK.box, fz := false, sz := 0,
              es :=
                [AV.slc (numF d2.fst d2.snd).fst.fst.fst
                    (List.map (mkV false [Lf.fi IntKind.u8]) (numF d2.fst d2.snd).fst.fst.snd),
                  AV.int IntKind.i64 (numF d2.fst d2.snd).fst.snd] }])
        fun (d3 : ((Bool × List Int) × Int) × Int) =>
        bK (decide (IntKind.i64.wrap (1 + (numF d0.fst d0.snd).snd) = 1))
          (oK
            (numS.dec [AV.ptr 1000000 0 0 0, AV.int IntKind.i64 4]
              [{ v := 0, k := BK.box, fz := false, sz := 0,
                  es :=
                    [AV.slc (numF d3.fst d3.snd).fst.fst.fst
                        (List.map (mkV false [Lf.fi IntKind.u8]) (numF d3.fst d3.snd).fst.fst.snd),
                      AV.int IntKind.i64 (numF d3.fst d3.snd).fst.snd] }])
            fun (d4 : ((Bool × List Int) × Int) × Int) =>
            bK (decide (0 ≤ (numF d4.fst d4.snd).snd ∧ (numF d4.fst d4.snd).snd < 4))
              (oK
                (ldRow [Lf.fs] [AV.str [97], AV.str [98], AV.str [110, 111, 116, 101, 115], AV.str [99]]
                  (0 + Int.toNat (numF d4.fst d4.snd).snd) 0)
                fun (d5 : List UInt8) =>
                some
                  { pan := false,
                    res :=
                      AV.agg
                        [AV.int IntKind.i64 (IntKind.i64.wrap (1 + (numF d0.fst d0.snd).snd)),
                          AV.int IntKind.i64 (IntKind.i64.wrap (1 + (numF d1.fst d1.snd).snd)),
                          AV.int IntKind.i64 (numF d2.fst d2.snd).snd,
                          AV.int IntKind.i64 (IntKind.i64.wrap (1 + (numF d3.fst d3.snd).snd)), AV.str d5,
                          AV.int IntKind.i64 0, AV.int IntKind.i64 0, AV.slc true []],
                    out :=
                      [{ v := 0, k := BK.box, fz := false, sz := 0,
                          es :=
                            [AV.slc (numF d4.fst d4.snd).fst.fst.fst
                                (List.map (mkV false [Lf.fi IntKind.u8]) (numF d4.fst d4.snd).fst.fst.snd),
                              AV.int IntKind.i64 (numF d4.fst d4.snd).fst.snd] }],
                    new := [] })
              none)
          (bK (decide (IntKind.i64.wrap (1 + (numF d0.fst d0.snd).snd) = 2))
            (oK
              (numS.dec [AV.ptr 1000000 0 0 0, AV.int IntKind.i64 2]
                [{ v := 0, k := BK.box, fz := false, sz := 0,
                    es :=
                      [AV.slc (numF d3.fst d3.snd).fst.fst.fst
                          (List.map (mkV false [Lf.fi IntKind.u8]) (numF d3.fst d3.snd).fst.fst.snd),
                        AV.int IntKind.i64 (numF d3.fst d3.snd).fst.snd] }])
              fun (d6 : ((Bool × List Int) × Int) × Int) =>
              oK
                (numS.dec [AV.ptr 1000000 0 0 0, AV.int IntKind.i64 6]
                  [{ v := 0, k := BK.box, fz := false, sz := 0,
                      es :=
                        [AV.slc (numF d6.fst d6.snd).fst.fst.fst
                            (List.map (mkV false [Lf.fi IntKind.u8]) (numF d6.fst d6.snd).fst.fst.snd),
                          AV.int IntKind.i64 (numF d6.fst d6.snd).fst.snd] }])
                fun (d7 : ((Bool × List Int) × Int) × Int) =>
                some
                  { pan := false,
                    res :=
                      AV.agg
                        [AV.int IntKind.i64 (IntKind.i64.wrap (1 + (numF d0.fst d0.snd).snd)),
                          AV.int IntKind.i64 (IntKind.i64.wrap (1 + (numF d1.fst d1.snd).snd)),
                          AV.int IntKind.i64 (numF d2.fst d2.snd).snd,
                          AV.int IntKind.i64 (IntKind.i64.wrap (1 + (numF d3.fst d3.snd).snd)), AV.str [],
                          AV.int IntKind.i64 (IntKind.i64.wrap (1 + (numF d7.fst d7.snd).snd)),
                          AV.int IntKind.i64 (IntKind.i64.wrap (1 + (numF d6.fst d6.snd).snd)), AV.slc true []],
                    out :=
                      [{ v := 0, k := BK.box, fz := false, sz := 0,
                          es :=
                            [AV.slc (numF d7.fst d7.snd).fst.fst.fst
                                (List.map (mkV false [Lf.fi IntKind.u8]) (numF d7.fst d7.snd).fst.fst.snd),
                              AV.int IntKind.i64 (numF d7.fst d7.snd).fst.snd] }],
                    new := [] })
            (bK (decide (IntKind.i64.wrap (1 + (numF d0.fst d0.snd).snd) = 3))
              (oK
                (writesS.dec [AV.ptr 1000000 0 0 0, AV.int IntKind.i64 4]
                  [{ v := 0, k := BK.box, fz := false, sz := 0,
                      es :=
                        [AV.slc (numF d3.fst d3.snd).fst.fst.fst
                            (List.map (mkV false [Lf.fi IntKind.u8]) (numF d3.fst d3.snd).fst.fst.snd),
                          AV.int IntKind.i64 (numF d3.fst d3.snd).fst.snd] }])
                fun (d8 : ((Bool × List Int) × Int) × Int) =>
                bK (List.map (mkV true Write_tfs) (writesF d8.fst d8.snd).snd.snd).isEmpty
                  (oK
                    (writeS.dec [AV.ptr 1000000 0 0 0]
                      [{ v := 0, k := BK.box, fz := false, sz := 0,
                          es :=
                            [AV.slc (writesF d8.fst d8.snd).fst.fst.fst
                                (List.map (mkV false [Lf.fi IntKind.u8]) (writesF d8.fst d8.snd).fst.fst.snd),
                              AV.int IntKind.i64 (writesF d8.fst d8.snd).fst.snd] }])
                    fun (d9 : ((Bool × List Int) × Int) × PUnit) =>
                    oK
                      (numS.dec [AV.ptr 1000000 0 0 0, AV.int IntKind.i64 6]
                        [{ v := 0, k := BK.box, fz := false, sz := 0,
                            es :=
                              [AV.slc (writeF d9.fst).fst.fst.fst
                                  (List.map (mkV false [Lf.fi IntKind.u8]) (writeF d9.fst).fst.fst.snd),
                                AV.int IntKind.i64 (writeF d9.fst).fst.snd] }])
                      fun (d10 : ((Bool × List Int) × Int) × Int) =>
                      some
                        { pan := false,
                          res :=
                            AV.agg
                              [AV.int IntKind.i64 (IntKind.i64.wrap (1 + (numF d0.fst d0.snd).snd)),
                                AV.int IntKind.i64 (IntKind.i64.wrap (1 + (numF d1.fst d1.snd).snd)),
                                AV.int IntKind.i64 (numF d2.fst d2.snd).snd,
                                AV.int IntKind.i64 (IntKind.i64.wrap (1 + (numF d3.fst d3.snd).snd)), AV.str [],
                                AV.int IntKind.i64 (IntKind.i64.wrap (1 + (numF d10.fst d10.snd).snd)),
                                AV.int IntKind.i64 0,
                                AV.slc false
                                  [AV.agg
                                      [AV.int IntKind.i64 (writeF d9.fst).snd.fst, AV.str (writeF d9.fst).snd.snd]]],
                          out :=
                            [{ v := 0, k := BK.box, fz := false, sz := 0,
                                es :=
                                  [AV.slc (numF d10.fst d10.snd).fst.fst.fst
                                      (List.map (mkV false [Lf.fi IntKind.u8]) (numF d10.fst d10.snd).fst.fst.snd),
                                    AV.int IntKind.i64 (numF d10.fst d10.snd).fst.snd] }],
                          new := [] })
                  (oK
                    (writeS.dec [AV.ptr 1000000 0 0 0]
                      [{ v := 0, k := BK.box, fz := false, sz := 0,
                          es :=
                            [AV.slc (writesF d8.fst d8.snd).fst.fst.fst
                                (List.map (mkV false [Lf.fi IntKind.u8]) (writesF d8.fst d8.snd).fst.fst.snd),
                              AV.int IntKind.i64 (writesF d8.fst d8.snd).fst.snd] }])
                    fun (d11 : ((Bool × List Int) × Int) × PUnit) =>
                    bK
                      (decide
                        (0 + (List.map (mkV true Write_tfs) (writesF d8.fst d8.snd).snd.snd).length ≤
                          (List.map (mkV true Write_tfs) (writesF d8.fst d8.snd).snd.snd).length))
                      (bK
                        (decide
                            (0 = 0 ∧
                              (List.map (mkV true Write_tfs) (writesF d8.fst d8.snd).snd.snd).length =
                                (List.map (mkV true Write_tfs) (writesF d8.fst d8.snd).snd.snd).length) &&
                          bytesFit Try.prog 59
                            ((List.map (mkV true Write_tfs) (writesF d8.fst d8.snd).snd.snd).length + 1))
                        (oK
                          (numS.dec [AV.ptr 1000000 0 0 0, AV.int IntKind.i64 6]
                            [{ v := 0, k := BK.box, fz := false, sz := 0,
                                es :=
                                  [AV.slc (writeF d11.fst).fst.fst.fst
                                      (List.map (mkV false [Lf.fi IntKind.u8]) (writeF d11.fst).fst.fst.snd),
                                    AV.int IntKind.i64 (writeF d11.fst).fst.snd] }])
                          fun (d12 : ((Bool × List Int) × Int) × Int) =>
                          bK
                            (decide
                              (0 + ((List.map (mkV true Write_tfs) (writesF d8.fst d8.snd).snd.snd).length + 1) ≤
                                (List.take (List.map (mkV true Write_tfs) (writesF d8.fst d8.snd).snd.snd).length
                                      (List.map (mkV true Write_tfs) (writesF d8.fst d8.snd).snd.snd) ++
                                    [AV.agg
                                        [AV.int IntKind.i64 (writeF d11.fst).snd.fst,
                                          AV.str (writeF d11.fst).snd.snd]]).length))
                            (some
                              { pan := false,
                                res :=
                                  AV.agg
                                    [AV.int IntKind.i64 (IntKind.i64.wrap (1 + (numF d0.fst d0.snd).snd)),
                                      AV.int IntKind.i64 (IntKind.i64.wrap (1 + (numF d1.fst d1.snd).snd)),
                                      AV.int IntKind.i64 (numF d2.fst d2.snd).snd,
                                      AV.int IntKind.i64 (IntKind.i64.wrap (1 + (numF d3.fst d3.snd).snd)), AV.str [],
                                      AV.int IntKind.i64 (IntKind.i64.wrap (1 + (numF d12.fst d12.snd).snd)),
                                      AV.int IntKind.i64 0,
                                      AV.slc false
                                        (List.take
                                          ((List.map (mkV true Write_tfs) (writesF d8.fst d8.snd).snd.snd).length + 1)
                                          (List.drop 0
                                            (List.take
                                                (List.map (mkV true Write_tfs) (writesF d8.fst d8.snd).snd.snd).length
                                                (List.map (mkV true Write_tfs) (writesF d8.fst d8.snd).snd.snd) ++
                                              [AV.agg
                                                  [AV.int IntKind.i64 (writeF d11.fst).snd.fst,
                                                    AV.str (writeF d11.fst).snd.snd]])))],
                                out :=
                                  [{ v := 0, k := BK.box, fz := false, sz := 0,
                                      es :=
                                        [AV.slc (numF d12.fst d12.snd).fst.fst.fst
                                            (List.map (mkV false [Lf.fi IntKind.u8])
                                              (numF d12.fst d12.snd).fst.fst.snd),
                                          AV.int IntKind.i64 (numF d12.fst d12.snd).fst.snd] }],
                                new := [] })
                            none)
                        none)
                      none))
              (bK (decide (IntKind.i64.wrap (1 + (numF d0.fst d0.snd).snd) = 4))
                (oK
                  (writesS.dec [AV.ptr 1000000 0 0 0, AV.int IntKind.i64 5]
                    [{ v := 0, k := BK.box, fz := false, sz := 0,
                        es :=
                          [AV.slc (numF d3.fst d3.snd).fst.fst.fst
                              (List.map (mkV false [Lf.fi IntKind.u8]) (numF d3.fst d3.snd).fst.fst.snd),
                            AV.int IntKind.i64 (numF d3.fst d3.snd).fst.snd] }])
                  fun (d13 : ((Bool × List Int) × Int) × Int) =>
                  bK (List.map (mkV true Write_tfs) (writesF d13.fst d13.snd).snd.snd).isEmpty
                    (oK
                      (numS.dec [AV.ptr 1000000 0 0 0, AV.int IntKind.i64 6]
                        [{ v := 0, k := BK.box, fz := false, sz := 0,
                            es :=
                              [AV.slc (writesF d13.fst d13.snd).fst.fst.fst
                                  (List.map (mkV false [Lf.fi IntKind.u8]) (writesF d13.fst d13.snd).fst.fst.snd),
                                AV.int IntKind.i64 (writesF d13.fst d13.snd).fst.snd] }])
                      fun (d14 : ((Bool × List Int) × Int) × Int) =>
                      some
                        { pan := false,
                          res :=
                            AV.agg
                              [AV.int IntKind.i64 (IntKind.i64.wrap (1 + (numF d0.fst d0.snd).snd)),
                                AV.int IntKind.i64 (IntKind.i64.wrap (1 + (numF d1.fst d1.snd).snd)),
                                AV.int IntKind.i64 (numF d2.fst d2.snd).snd,
                                AV.int IntKind.i64 (IntKind.i64.wrap (1 + (numF d3.fst d3.snd).snd)), AV.str [],
                                AV.int IntKind.i64 (IntKind.i64.wrap (1 + (numF d14.fst d14.snd).snd)),
                                AV.int IntKind.i64 0, AV.slc true []],
                          out :=
                            [{ v := 0, k := BK.box, fz := false, sz := 0,
                                es :=
                                  [AV.slc (numF d14.fst d14.snd).fst.fst.fst
                                      (List.map (mkV false [Lf.fi IntKind.u8]) (numF d14.fst d14.snd).fst.fst.snd),
                                    AV.int IntKind.i64 (numF d14.fst d14.snd).fst.snd] }],
                          new := [] })
                    (oK
                      (numS.dec [AV.ptr 1000000 0 0 0, AV.int IntKind.i64 6]
                        [{ v := 0, k := BK.box, fz := false, sz := 0,
                            es :=
                              [AV.slc (writesF d13.fst d13.snd).fst.fst.fst
                                  (List.map (mkV false [Lf.fi IntKind.u8]) (writesF d13.fst d13.snd).fst.fst.snd),
                                AV.int IntKind.i64 (writesF d13.fst d13.snd).fst.snd] }])
                      fun (d15 : ((Bool × List Int) × Int) × Int) =>
                      bK
                        (decide
                          (0 + (List.map (mkV true Write_tfs) (writesF d13.fst d13.snd).snd.snd).length ≤
                            (List.map (mkV true Write_tfs) (writesF d13.fst d13.snd).snd.snd).length))
                        (some
                          { pan := false,
                            res :=
                              AV.agg
                                [AV.int IntKind.i64 (IntKind.i64.wrap (1 + (numF d0.fst d0.snd).snd)),
                                  AV.int IntKind.i64 (IntKind.i64.wrap (1 + (numF d1.fst d1.snd).snd)),
                                  AV.int IntKind.i64 (numF d2.fst d2.snd).snd,
                                  AV.int IntKind.i64 (IntKind.i64.wrap (1 + (numF d3.fst d3.snd).snd)), AV.str [],
                                  AV.int IntKind.i64 (IntKind.i64.wrap (1 + (numF d15.fst d15.snd).snd)),
                                  AV.int IntKind.i64 0,
                                  AV.slc false
                                    (List.take (List.map (mkV true Write_tfs) (writesF d13.fst d13.snd).snd.snd).length
                                      (List.drop 0 (List.map (mkV true Write_tfs) (writesF d13.fst d13.snd).snd.snd)))],
                            out :=
                              [{ v := 0, k := BK.box, fz := false, sz := 0,
                                  es :=
                                    [AV.slc (numF d15.fst d15.snd).fst.fst.fst
                                        (List.map (mkV false [Lf.fi IntKind.u8]) (numF d15.fst d15.snd).fst.fst.snd),
                                      AV.int IntKind.i64 (numF d15.fst d15.snd).fst.snd] }],
                            new := [] })
                        none))
                (oK
                  (numS.dec [AV.ptr 1000000 0 0 0, AV.int IntKind.i64 6]
                    [{ v := 0, k := BK.box, fz := false, sz := 0,
                        es :=
                          [AV.slc (numF d3.fst d3.snd).fst.fst.fst
                              (List.map (mkV false [Lf.fi IntKind.u8]) (numF d3.fst d3.snd).fst.fst.snd),
                            AV.int IntKind.i64 (numF d3.fst d3.snd).fst.snd] }])
                  fun (d16 : ((Bool × List Int) × Int) × Int) =>
                  some
                    { pan := false,
                      res :=
                        AV.agg
                          [AV.int IntKind.i64 (IntKind.i64.wrap (1 + (numF d0.fst d0.snd).snd)),
                            AV.int IntKind.i64 (IntKind.i64.wrap (1 + (numF d1.fst d1.snd).snd)),
                            AV.int IntKind.i64 (numF d2.fst d2.snd).snd,
                            AV.int IntKind.i64 (IntKind.i64.wrap (1 + (numF d3.fst d3.snd).snd)), AV.str [],
                            AV.int IntKind.i64 (IntKind.i64.wrap (1 + (numF d16.fst d16.snd).snd)),
                            AV.int IntKind.i64 0, AV.slc true []],
                      out :=
                        [{ v := 0, k := BK.box, fz := false, sz := 0,
                            es :=
                              [AV.slc (numF d16.fst d16.snd).fst.fst.fst
                                  (List.map (mkV false [Lf.fi IntKind.u8]) (numF d16.fst d16.snd).fst.fst.snd),
                                AV.int IntKind.i64 (numF d16.fst d16.snd).fst.snd] }],
                      new := [] }))))
theorem ask_w (p_l_x : Bool) (p_l : List Int) (p_n : Int) : unitQ Try.prog cfg PK3 LP0 false 9 (.ptr outBase 0 0 0 :: groupA ask_sh (Tu.mk ask_fs ())) [boxB (Tu.mk ask_bs ((p_l_x, p_l), p_n))] = ask_r p_l_x p_l p_n := by kernel_rfl

end Go.Proofs.Ytjohkibidibihaa
