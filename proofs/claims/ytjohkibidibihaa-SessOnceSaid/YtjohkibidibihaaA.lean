/- A part of the proof: contracts of functions. -/
import Derived.Test.YtjohkibidibihaaR
import Derived.Test.YtjohkibidibihaaAbLp
set_option linter.unusedVariables false
set_option linter.unusedSimpArgs false
set_option maxRecDepth 100000
namespace Go.Proofs.Ytjohkibidibihaa
open Go Go.Ab
/-- How it is judged. -/
def judgeN (epoch : Int) (seen : List Int) (told : List Tell_T) (marks : List Mark_T) (a_From a_Epoch a_Seq : Int) : Int × Tell_T :=
  if seen.length ≠ marks.length ∨ told.length ≠ marks.length ∨ a_From < 1 ∨ marks.length < a_From ∨ a_Seq < 1 then (2, 0, 0, 0, 0, 0, 0, 0, 0, [])
  else if a_Epoch ≠ epoch then (1, 0, 0, 0, 0, 0, 0, 0, 0, [])
  else
    let at' := (a_From - 1).toNat
    let t := told.getD at' (0, 0, 0, 0, 0, 0, 0, 0, [])
    let m := marks.getD at' (0, 0, 0, 0)
    if a_Seq < seen.getD at' 0 then (2, 0, 0, 0, 0, 0, 0, 0, 0, [])
    else if t.2.2.2.1 = a_Seq then (3, t)
    else if m.1 = a_Seq then (3, 1, a_From, epoch, a_Seq, m.2.1, m.2.2.1, 0, m.2.2.2, [])
    else (4, 0, 0, 0, 0, 0, 0, 0, 0, [])
abbrev judge_id : Nat := 10
abbrev judge_sh : Shp := [none, none, none, none, some 8]
abbrev judge_fs : List Lf := [.fi .i64, .fl false [.fi .i64], .fl true Tell_tfs, .fl true Mark_tfs, .fi .i64, .fi .i64, .fi .i64, .fi .i64, .fs, .fi .i64, .fi .i64, .fl true Write_tfs]
abbrev judge_rsh : Shp := [none, some 9]
abbrev judge_rfs : List Lf := [.fi .i64, .fi .i64, .fi .i64, .fi .i64, .fi .i64, .fi .i64, .fi .i64, .fi .i64, .fi .i64, .fs]
noncomputable def judge_r (epoch : Int) (seen_x : Bool) (seen : List Int) (told_x : Bool) (told : List Tell_T) (marks_x : Bool) (marks : List Mark_T) (a_Kind : Int) (a_From : Int) (a_Epoch : Int) (a_Seq : Int) (a_Name : List UInt8) (a_File : Int) (a_Mode : Int) (a_Writes_x : Bool) (a_Writes : List Write_T) : Option Ret :=
  bK
  (!decide
      ((↑(List.map (mkV false [Lf.fi IntKind.i64]) seen).length : Int) =
        (↑(List.map (mkV true Mark_tfs) marks).length : Int)))
  (some
    { pan := false,
      res :=
        AV.tup
          [AV.int IntKind.i64 2,
            AV.agg
              [AV.int IntKind.i64 0, AV.int IntKind.i64 0, AV.int IntKind.i64 0, AV.int IntKind.i64 0,
                AV.int IntKind.i64 0, AV.int IntKind.i64 0, AV.int IntKind.i64 0, AV.int IntKind.i64 0, AV.str []]],
      out := [], new := [] })
  (bK
    (!decide
        ((↑(List.map (mkV true Tell_tfs) told).length : Int) = (↑(List.map (mkV true Mark_tfs) marks).length : Int)))
    (some
      { pan := false,
        res :=
          AV.tup
            [AV.int IntKind.i64 2,
              AV.agg
                [AV.int IntKind.i64 0, AV.int IntKind.i64 0, AV.int IntKind.i64 0, AV.int IntKind.i64 0,
                  AV.int IntKind.i64 0, AV.int IntKind.i64 0, AV.int IntKind.i64 0, AV.int IntKind.i64 0, AV.str []]],
        out := [], new := [] })
    (bK (decide (a_From < 1))
      (some
        { pan := false,
          res :=
            AV.tup
              [AV.int IntKind.i64 2,
                AV.agg
                  [AV.int IntKind.i64 0, AV.int IntKind.i64 0, AV.int IntKind.i64 0, AV.int IntKind.i64 0,
                    AV.int IntKind.i64 0, AV.int IntKind.i64 0, AV.int IntKind.i64 0, AV.int IntKind.i64 0, AV.str []]],
          out := [], new := [] })
      (bK (decide ((↑(List.map (mkV false [Lf.fi IntKind.i64]) seen).length : Int) < a_From))
        (some
          { pan := false,
            res :=
              AV.tup
                [AV.int IntKind.i64 2,
                  AV.agg
                    [AV.int IntKind.i64 0, AV.int IntKind.i64 0, AV.int IntKind.i64 0, AV.int IntKind.i64 0,
                      AV.int IntKind.i64 0, AV.int IntKind.i64 0, AV.int IntKind.i64 0, AV.int IntKind.i64 0,
                      AV.str []]],
            out := [], new := [] })
        (bK (decide (a_Seq < 1))
          (some
            { pan := false,
              res :=
                AV.tup
                  [AV.int IntKind.i64 2,
                    AV.agg
                      [AV.int IntKind.i64 0, AV.int IntKind.i64 0, AV.int IntKind.i64 0, AV.int IntKind.i64 0,
                        AV.int IntKind.i64 0, AV.int IntKind.i64 0, AV.int IntKind.i64 0, AV.int IntKind.i64 0,
                        AV.str []]],
              out := [], new := [] })
          (bK (!decide (a_Epoch = epoch))
            (some
              { pan := false,
                res :=
                  AV.tup
                    [AV.int IntKind.i64 1,
                      AV.agg
                        [AV.int IntKind.i64 0, AV.int IntKind.i64 0, AV.int IntKind.i64 0, AV.int IntKind.i64 0,
                          AV.int IntKind.i64 0, AV.int IntKind.i64 0, AV.int IntKind.i64 0, AV.int IntKind.i64 0,
                          AV.str []]],
                out := [], new := [] })
            (oK
              (elemAt false [Lf.fi IntKind.i64] (List.map (mkV false [Lf.fi IntKind.i64]) seen)
                (IntKind.i64.wrap (a_From - 1)))
              fun (d0 : Int) =>
              bK (decide (a_Seq < d0))
                (some
                  { pan := false,
                    res :=
                      AV.tup
                        [AV.int IntKind.i64 2,
                          AV.agg
                            [AV.int IntKind.i64 0, AV.int IntKind.i64 0, AV.int IntKind.i64 0, AV.int IntKind.i64 0,
                              AV.int IntKind.i64 0, AV.int IntKind.i64 0, AV.int IntKind.i64 0, AV.int IntKind.i64 0,
                              AV.str []]],
                    out := [], new := [] })
                (oK (elemAt true Tell_tfs (List.map (mkV true Tell_tfs) told) (IntKind.i64.wrap (a_From - 1)))
                  fun (d1 : Int × Int × Int × Int × Int × Int × Int × Int × List UInt8) =>
                  bK (decide (d1.snd.snd.snd.fst = a_Seq))
                    (oK (elemAt true Tell_tfs (List.map (mkV true Tell_tfs) told) (IntKind.i64.wrap (a_From - 1)))
                      fun (d2 : Int × Int × Int × Int × Int × Int × Int × Int × List UInt8) =>
                      some
                        { pan := false,
                          res :=
                            AV.tup
                              [AV.int IntKind.i64 3,
                                AV.agg
                                  [AV.int IntKind.i64 d2.fst, AV.int IntKind.i64 d2.snd.fst,
                                    AV.int IntKind.i64 d2.snd.snd.fst, AV.int IntKind.i64 d2.snd.snd.snd.fst,
                                    AV.int IntKind.i64 d2.snd.snd.snd.snd.fst,
                                    AV.int IntKind.i64 d2.snd.snd.snd.snd.snd.fst,
                                    AV.int IntKind.i64 d2.snd.snd.snd.snd.snd.snd.fst,
                                    AV.int IntKind.i64 d2.snd.snd.snd.snd.snd.snd.snd.fst,
                                    AV.str d2.snd.snd.snd.snd.snd.snd.snd.snd]],
                          out := [], new := [] })
                    (bK (decide (1 ≤ a_From))
                      (bK (!decide (a_From ≤ (↑(List.map (mkV true Mark_tfs) marks).length : Int)))
                        (some
                          { pan := false,
                            res :=
                              AV.tup
                                [AV.int IntKind.i64 4,
                                  AV.agg
                                    [AV.int IntKind.i64 0, AV.int IntKind.i64 0, AV.int IntKind.i64 0,
                                      AV.int IntKind.i64 0, AV.int IntKind.i64 0, AV.int IntKind.i64 0,
                                      AV.int IntKind.i64 0, AV.int IntKind.i64 0, AV.str []]],
                            out := [], new := [] })
                        (bK (decide (a_Seq ≤ 0))
                          (some
                            { pan := false,
                              res :=
                                AV.tup
                                  [AV.int IntKind.i64 4,
                                    AV.agg
                                      [AV.int IntKind.i64 0, AV.int IntKind.i64 0, AV.int IntKind.i64 0,
                                        AV.int IntKind.i64 0, AV.int IntKind.i64 0, AV.int IntKind.i64 0,
                                        AV.int IntKind.i64 0, AV.int IntKind.i64 0, AV.str []]],
                              out := [], new := [] })
                          (oK
                            (elemAt true Mark_tfs (List.map (mkV true Mark_tfs) marks) (IntKind.i64.wrap (a_From - 1)))
                            fun (d3 : Int × Int × Int × Int) =>
                            bK (!decide (d3.fst = a_Seq))
                              (some
                                { pan := false,
                                  res :=
                                    AV.tup
                                      [AV.int IntKind.i64 4,
                                        AV.agg
                                          [AV.int IntKind.i64 0, AV.int IntKind.i64 0, AV.int IntKind.i64 0,
                                            AV.int IntKind.i64 0, AV.int IntKind.i64 0, AV.int IntKind.i64 0,
                                            AV.int IntKind.i64 0, AV.int IntKind.i64 0, AV.str []]],
                                  out := [], new := [] })
                              (oK
                                (elemAt true Mark_tfs (List.map (mkV true Mark_tfs) marks)
                                  (IntKind.i64.wrap (a_From - 1)))
                                fun (d4 : Int × Int × Int × Int) =>
                                some
                                  { pan := false,
                                    res :=
                                      AV.tup
                                        [AV.int IntKind.i64 3,
                                          AV.agg
                                            [AV.int IntKind.i64 1, AV.int IntKind.i64 a_From, AV.int IntKind.i64 epoch,
                                              AV.int IntKind.i64 a_Seq, AV.int IntKind.i64 d4.snd.fst,
                                              AV.int IntKind.i64 d4.snd.snd.fst, AV.int IntKind.i64 0,
                                              AV.int IntKind.i64 d4.snd.snd.snd, AV.str []]],
                                    out := [], new := [] }))))
                      (some
                        { pan := false,
                          res :=
                            AV.tup
                              [AV.int IntKind.i64 4,
                                AV.agg
                                  [AV.int IntKind.i64 0, AV.int IntKind.i64 0, AV.int IntKind.i64 0,
                                    AV.int IntKind.i64 0, AV.int IntKind.i64 0, AV.int IntKind.i64 0,
                                    AV.int IntKind.i64 0, AV.int IntKind.i64 0, AV.str []]],
                          out := [], new := [] })))))))))
theorem judge_w (epoch : Int) (seen_x : Bool) (seen : List Int) (told_x : Bool) (told : List Tell_T) (marks_x : Bool) (marks : List Mark_T) (a_Kind : Int) (a_From : Int) (a_Epoch : Int) (a_Seq : Int) (a_Name : List UInt8) (a_File : Int) (a_Mode : Int) (a_Writes_x : Bool) (a_Writes : List Write_T) : unitQ Try.prog cfg PK4 LP0 false 10 (groupA judge_sh (Tu.mk judge_fs (epoch, (seen_x, seen), (told_x, told), (marks_x, marks), a_Kind, a_From, a_Epoch, a_Seq, a_Name, a_File, a_Mode, (a_Writes_x, a_Writes)))) [] = judge_r epoch seen_x seen told_x told marks_x marks a_Kind a_From a_Epoch a_Seq a_Name a_File a_Mode a_Writes_x a_Writes := by kernel_rfl

def judgeG (d : Int × (Bool × List Int) × (Bool × List Tell_T) × (Bool × List Mark_T) × Ask_T) : Int × Tell_T := judgeN d.1 d.2.1.2 d.2.2.1.2 d.2.2.2.1.2 d.2.2.2.2.2.1 d.2.2.2.2.2.2.1 d.2.2.2.2.2.2.2.1
def judgeP (d : Int × (Bool × List Int) × (Bool × List Tell_T) × (Bool × List Mark_T) × Ask_T) : Prop := d.2.2.2.1.2.length < 2 ^ 40
def judgeS : FS := ⟨judge_sh, judge_fs, judge_rsh, judge_rfs, judgeP, judgeG, none⟩
theorem judge_v (epoch : Int) (seen_x : Bool) (seen : List Int) (told_x : Bool) (told : List Tell_T) (marks_x : Bool) (marks : List Mark_T) (a_Kind : Int) (a_From : Int) (a_Epoch : Int) (a_Seq : Int) (a_Name : List UInt8) (a_File : Int) (a_Mode : Int) (a_Writes_x : Bool) (a_Writes : List Write_T) (h : judgeP (epoch, (seen_x, seen), (told_x, told), (marks_x, marks), a_Kind, a_From, a_Epoch, a_Seq, a_Name, a_File, a_Mode, (a_Writes_x, a_Writes))) : judge_r epoch seen_x seen told_x told marks_x marks a_Kind a_From a_Epoch a_Seq a_Name a_File a_Mode a_Writes_x a_Writes = some (judgeS.ret (epoch, (seen_x, seen), (told_x, told), (marks_x, marks), a_Kind, a_From, a_Epoch, a_Seq, a_Name, a_File, a_Mode, (a_Writes_x, a_Writes))) := by
  have h : marks.length < 2 ^ 40 := h
  show _ = some (judgeS.out (judgeN epoch seen told marks a_From a_Epoch a_Seq))
  unfold judge_r judgeN
  by_cases c : seen.length ≠ marks.length ∨ told.length ≠ marks.length ∨ a_From < 1 ∨ marks.length < a_From ∨ a_Seq < 1
  · rw [if_pos c]
    simp only [List.length_map]
    repeat' first | refine bK_i (fun _ => ?_) (fun _ => ?_) | refine bK_n (fun _ => ?_) (fun _ => ?_) | rfl | contradiction | (exfalso; omega)
  · rw [if_neg c]
    have hw : IntKind.i64.wrap (a_From - 1) = a_From - 1 := w64 (by omega) (by omega)
    rw [hw]
    simp only [oK_atD (show okV false [Lf.fi IntKind.i64] = true from rfl) 0 (show 0 ≤ a_From - 1 by omega) (show (a_From - 1).toNat < seen.length by omega),
      oK_atD (show okV true Tell_tfs = true from rfl) (0, 0, 0, 0, 0, 0, 0, 0, []) (show 0 ≤ a_From - 1 by omega) (show (a_From - 1).toNat < told.length by omega),
      oK_atD (show okV true Mark_tfs = true from rfl) (0, 0, 0, 0) (show 0 ≤ a_From - 1 by omega) (show (a_From - 1).toNat < marks.length by omega), List.length_map]
    repeat' first | refine bK_i (fun _ => ?_) (fun _ => ?_) | refine bK_n (fun _ => ?_) (fun _ => ?_) | rfl | contradiction | (exfalso; omega) | refine out_ite judgeS (fun _ => ?_) (fun _ => ?_)
theorem judge_ok : ∀ (d : Tu judge_fs), judgeS.pre d → unitQ Try.prog cfg PK4 LP0 false 10 (judgeS.args d) [] = some (judgeS.ret d)
  | (epoch, (seen_x, seen), (told_x, told), (marks_x, marks), a_Kind, a_From, a_Epoch, a_Seq, a_Name, a_File, a_Mode, (a_Writes_x, a_Writes)), h => (judge_w epoch seen_x seen told_x told marks_x marks a_Kind a_From a_Epoch a_Seq a_Name a_File a_Mode a_Writes_x a_Writes).trans (judge_v epoch seen_x seen told_x told marks_x marks a_Kind a_From a_Epoch a_Seq a_Name a_File a_Mode a_Writes_x a_Writes h)
noncomputable def PK5 : PKs := PK4.add 10 judgeS.pk
theorem PK5_ok : PKsOk Try.prog PK5 := PKsOk.fs (cfg := cfg) PK4_ok (fnOk PK4_ok 21) 10 rfl LP0 fLoops_none judgeS judge_ok

abbrev rjudge_id : Nat := 11
abbrev rjudge_sh : Shp := [none, none, none, none, some 8]
abbrev rjudge_fs : List Lf := [.fi .i64, .fl false [.fi .i64], .fl true Tell_tfs, .fl true Mark_tfs, .fi .i64, .fi .i64, .fi .i64, .fi .i64, .fs, .fi .i64, .fi .i64, .fl true Write_tfs]
abbrev rjudge_rsh : Shp := [none, some 9]
abbrev rjudge_rfs : List Lf := [.fi .i64, .fi .i64, .fi .i64, .fi .i64, .fi .i64, .fi .i64, .fi .i64, .fi .i64, .fi .i64, .fs]
noncomputable def rjudge_r (epoch : Int) (seen_x : Bool) (seen : List Int) (told_x : Bool) (told : List Tell_T) (marks_x : Bool) (marks : List Mark_T) (a_Kind : Int) (a_From : Int) (a_Epoch : Int) (a_Seq : Int) (a_Name : List UInt8) (a_File : Int) (a_Mode : Int) (a_Writes_x : Bool) (a_Writes : List Write_T) : Option Ret :=
  bK
  (!decide
      ((↑(List.map (mkV false [Lf.fi IntKind.i64]) seen).length : Int) =
        (↑(List.map (mkV true Mark_tfs) marks).length : Int)))
  (some
    { pan := false,
      res :=
        AV.tup
          [AV.int IntKind.i64 2,
            AV.agg
              [AV.int IntKind.i64 0, AV.int IntKind.i64 0, AV.int IntKind.i64 0, AV.int IntKind.i64 0,
                AV.int IntKind.i64 0, AV.int IntKind.i64 0, AV.int IntKind.i64 0, AV.int IntKind.i64 0, AV.str []]],
      out := [], new := [] })
  (bK
    (!decide
        ((↑(List.map (mkV true Tell_tfs) told).length : Int) = (↑(List.map (mkV true Mark_tfs) marks).length : Int)))
    (some
      { pan := false,
        res :=
          AV.tup
            [AV.int IntKind.i64 2,
              AV.agg
                [AV.int IntKind.i64 0, AV.int IntKind.i64 0, AV.int IntKind.i64 0, AV.int IntKind.i64 0,
                  AV.int IntKind.i64 0, AV.int IntKind.i64 0, AV.int IntKind.i64 0, AV.int IntKind.i64 0, AV.str []]],
        out := [], new := [] })
    (bK (decide (a_From < 1))
      (some
        { pan := false,
          res :=
            AV.tup
              [AV.int IntKind.i64 2,
                AV.agg
                  [AV.int IntKind.i64 0, AV.int IntKind.i64 0, AV.int IntKind.i64 0, AV.int IntKind.i64 0,
                    AV.int IntKind.i64 0, AV.int IntKind.i64 0, AV.int IntKind.i64 0, AV.int IntKind.i64 0, AV.str []]],
          out := [], new := [] })
      (bK (decide ((↑(List.map (mkV true Mark_tfs) marks).length : Int) < a_From))
        (some
          { pan := false,
            res :=
              AV.tup
                [AV.int IntKind.i64 2,
                  AV.agg
                    [AV.int IntKind.i64 0, AV.int IntKind.i64 0, AV.int IntKind.i64 0, AV.int IntKind.i64 0,
                      AV.int IntKind.i64 0, AV.int IntKind.i64 0, AV.int IntKind.i64 0, AV.int IntKind.i64 0,
                      AV.str []]],
            out := [], new := [] })
        (bK (decide (a_Seq < 1))
          (some
            { pan := false,
              res :=
                AV.tup
                  [AV.int IntKind.i64 2,
                    AV.agg
                      [AV.int IntKind.i64 0, AV.int IntKind.i64 0, AV.int IntKind.i64 0, AV.int IntKind.i64 0,
                        AV.int IntKind.i64 0, AV.int IntKind.i64 0, AV.int IntKind.i64 0, AV.int IntKind.i64 0,
                        AV.str []]],
              out := [], new := [] })
          (bK (!decide (a_Epoch = epoch))
            (some
              { pan := false,
                res :=
                  AV.tup
                    [AV.int IntKind.i64 1,
                      AV.agg
                        [AV.int IntKind.i64 0, AV.int IntKind.i64 0, AV.int IntKind.i64 0, AV.int IntKind.i64 0,
                          AV.int IntKind.i64 0, AV.int IntKind.i64 0, AV.int IntKind.i64 0, AV.int IntKind.i64 0,
                          AV.str []]],
                out := [], new := [] })
            (oK
              (elemAt false [Lf.fi IntKind.i64] (List.map (mkV false [Lf.fi IntKind.i64]) seen)
                (IntKind.i64.wrap (a_From - 1)))
              fun (d0 : Int) =>
              bK (decide (a_Seq < d0))
                (some
                  { pan := false,
                    res :=
                      AV.tup
                        [AV.int IntKind.i64 2,
                          AV.agg
                            [AV.int IntKind.i64 0, AV.int IntKind.i64 0, AV.int IntKind.i64 0, AV.int IntKind.i64 0,
                              AV.int IntKind.i64 0, AV.int IntKind.i64 0, AV.int IntKind.i64 0, AV.int IntKind.i64 0,
                              AV.str []]],
                    out := [], new := [] })
                (oK (elemAt true Tell_tfs (List.map (mkV true Tell_tfs) told) (IntKind.i64.wrap (a_From - 1)))
                  fun (d1 : Int × Int × Int × Int × Int × Int × Int × Int × List UInt8) =>
                  bK (decide (d1.snd.snd.snd.fst = a_Seq))
                    (oK (elemAt true Tell_tfs (List.map (mkV true Tell_tfs) told) (IntKind.i64.wrap (a_From - 1)))
                      fun (d2 : Int × Int × Int × Int × Int × Int × Int × Int × List UInt8) =>
                      some
                        { pan := false,
                          res :=
                            AV.tup
                              [AV.int IntKind.i64 3,
                                AV.agg
                                  [AV.int IntKind.i64 d2.fst, AV.int IntKind.i64 d2.snd.fst,
                                    AV.int IntKind.i64 d2.snd.snd.fst, AV.int IntKind.i64 d2.snd.snd.snd.fst,
                                    AV.int IntKind.i64 d2.snd.snd.snd.snd.fst,
                                    AV.int IntKind.i64 d2.snd.snd.snd.snd.snd.fst,
                                    AV.int IntKind.i64 d2.snd.snd.snd.snd.snd.snd.fst,
                                    AV.int IntKind.i64 d2.snd.snd.snd.snd.snd.snd.snd.fst,
                                    AV.str d2.snd.snd.snd.snd.snd.snd.snd.snd]],
                          out := [], new := [] })
                    (bK (decide (a_From < 1))
                      (some
                        { pan := false,
                          res :=
                            AV.tup
                              [AV.int IntKind.i64 4,
                                AV.agg
                                  [AV.int IntKind.i64 0, AV.int IntKind.i64 0, AV.int IntKind.i64 0,
                                    AV.int IntKind.i64 0, AV.int IntKind.i64 0, AV.int IntKind.i64 0,
                                    AV.int IntKind.i64 0, AV.int IntKind.i64 0, AV.str []]],
                          out := [], new := [] })
                      (bK (decide ((↑(List.map (mkV true Mark_tfs) marks).length : Int) < a_From))
                        (some
                          { pan := false,
                            res :=
                              AV.tup
                                [AV.int IntKind.i64 4,
                                  AV.agg
                                    [AV.int IntKind.i64 0, AV.int IntKind.i64 0, AV.int IntKind.i64 0,
                                      AV.int IntKind.i64 0, AV.int IntKind.i64 0, AV.int IntKind.i64 0,
                                      AV.int IntKind.i64 0, AV.int IntKind.i64 0, AV.str []]],
                            out := [], new := [] })
                        (bK (decide (a_Seq < 1))
                          (some
                            { pan := false,
                              res :=
                                AV.tup
                                  [AV.int IntKind.i64 4,
                                    AV.agg
                                      [AV.int IntKind.i64 0, AV.int IntKind.i64 0, AV.int IntKind.i64 0,
                                        AV.int IntKind.i64 0, AV.int IntKind.i64 0, AV.int IntKind.i64 0,
                                        AV.int IntKind.i64 0, AV.int IntKind.i64 0, AV.str []]],
                              out := [], new := [] })
                          (oK
                            (elemAt true Mark_tfs (List.map (mkV true Mark_tfs) marks) (IntKind.i64.wrap (a_From - 1)))
                            fun (d3 : Int × Int × Int × Int) =>
                            bK (!decide (d3.fst = a_Seq))
                              (some
                                { pan := false,
                                  res :=
                                    AV.tup
                                      [AV.int IntKind.i64 4,
                                        AV.agg
                                          [AV.int IntKind.i64 0, AV.int IntKind.i64 0, AV.int IntKind.i64 0,
                                            AV.int IntKind.i64 0, AV.int IntKind.i64 0, AV.int IntKind.i64 0,
                                            AV.int IntKind.i64 0, AV.int IntKind.i64 0, AV.str []]],
                                  out := [], new := [] })
                              (oK
                                (elemAt true Mark_tfs (List.map (mkV true Mark_tfs) marks)
                                  (IntKind.i64.wrap (a_From - 1)))
                                fun (d4 : Int × Int × Int × Int) =>
                                some
                                  { pan := false,
                                    res :=
                                      AV.tup
                                        [AV.int IntKind.i64 3,
                                          AV.agg
                                            [AV.int IntKind.i64 1, AV.int IntKind.i64 a_From, AV.int IntKind.i64 epoch,
                                              AV.int IntKind.i64 a_Seq, AV.int IntKind.i64 d4.snd.fst,
                                              AV.int IntKind.i64 d4.snd.snd.fst, AV.int IntKind.i64 0,
                                              AV.int IntKind.i64 d4.snd.snd.snd, AV.str []]],
                                    out := [], new := [] }))))))))))))
theorem rjudge_w (epoch : Int) (seen_x : Bool) (seen : List Int) (told_x : Bool) (told : List Tell_T) (marks_x : Bool) (marks : List Mark_T) (a_Kind : Int) (a_From : Int) (a_Epoch : Int) (a_Seq : Int) (a_Name : List UInt8) (a_File : Int) (a_Mode : Int) (a_Writes_x : Bool) (a_Writes : List Write_T) : unitQ Try.prog cfg PK5 LP0 false 11 (groupA rjudge_sh (Tu.mk rjudge_fs (epoch, (seen_x, seen), (told_x, told), (marks_x, marks), a_Kind, a_From, a_Epoch, a_Seq, a_Name, a_File, a_Mode, (a_Writes_x, a_Writes)))) [] = rjudge_r epoch seen_x seen told_x told marks_x marks a_Kind a_From a_Epoch a_Seq a_Name a_File a_Mode a_Writes_x a_Writes := by kernel_rfl

def rjudgeS : FS := ⟨rjudge_sh, rjudge_fs, rjudge_rsh, rjudge_rfs, judgeP, judgeG, none⟩
theorem rjudge_v (epoch : Int) (seen_x : Bool) (seen : List Int) (told_x : Bool) (told : List Tell_T) (marks_x : Bool) (marks : List Mark_T) (a_Kind : Int) (a_From : Int) (a_Epoch : Int) (a_Seq : Int) (a_Name : List UInt8) (a_File : Int) (a_Mode : Int) (a_Writes_x : Bool) (a_Writes : List Write_T) (h : judgeP (epoch, (seen_x, seen), (told_x, told), (marks_x, marks), a_Kind, a_From, a_Epoch, a_Seq, a_Name, a_File, a_Mode, (a_Writes_x, a_Writes))) : rjudge_r epoch seen_x seen told_x told marks_x marks a_Kind a_From a_Epoch a_Seq a_Name a_File a_Mode a_Writes_x a_Writes = some (rjudgeS.ret (epoch, (seen_x, seen), (told_x, told), (marks_x, marks), a_Kind, a_From, a_Epoch, a_Seq, a_Name, a_File, a_Mode, (a_Writes_x, a_Writes))) := by
  have h : marks.length < 2 ^ 40 := h
  show _ = some (rjudgeS.out (judgeN epoch seen told marks a_From a_Epoch a_Seq))
  unfold rjudge_r judgeN
  by_cases c : seen.length ≠ marks.length ∨ told.length ≠ marks.length ∨ a_From < 1 ∨ marks.length < a_From ∨ a_Seq < 1
  · rw [if_pos c]
    simp only [List.length_map]
    repeat' first | refine bK_i (fun _ => ?_) (fun _ => ?_) | refine bK_n (fun _ => ?_) (fun _ => ?_) | rfl | contradiction | (exfalso; omega)
  · rw [if_neg c]
    have hw : IntKind.i64.wrap (a_From - 1) = a_From - 1 := w64 (by omega) (by omega)
    rw [hw]
    simp only [oK_atD (show okV false [Lf.fi IntKind.i64] = true from rfl) 0 (show 0 ≤ a_From - 1 by omega) (show (a_From - 1).toNat < seen.length by omega),
      oK_atD (show okV true Tell_tfs = true from rfl) (0, 0, 0, 0, 0, 0, 0, 0, []) (show 0 ≤ a_From - 1 by omega) (show (a_From - 1).toNat < told.length by omega),
      oK_atD (show okV true Mark_tfs = true from rfl) (0, 0, 0, 0) (show 0 ≤ a_From - 1 by omega) (show (a_From - 1).toNat < marks.length by omega), List.length_map]
    repeat' first | refine bK_i (fun _ => ?_) (fun _ => ?_) | refine bK_n (fun _ => ?_) (fun _ => ?_) | rfl | contradiction | (exfalso; omega) | refine out_ite rjudgeS (fun _ => ?_) (fun _ => ?_)
theorem rjudge_ok : ∀ (d : Tu rjudge_fs), rjudgeS.pre d → unitQ Try.prog cfg PK5 LP0 false 11 (rjudgeS.args d) [] = some (rjudgeS.ret d)
  | (epoch, (seen_x, seen), (told_x, told), (marks_x, marks), a_Kind, a_From, a_Epoch, a_Seq, a_Name, a_File, a_Mode, (a_Writes_x, a_Writes)), h => (rjudge_w epoch seen_x seen told_x told marks_x marks a_Kind a_From a_Epoch a_Seq a_Name a_File a_Mode a_Writes_x a_Writes).trans (rjudge_v epoch seen_x seen told_x told marks_x marks a_Kind a_From a_Epoch a_Seq a_Name a_File a_Mode a_Writes_x a_Writes h)
noncomputable def PK6 : PKs := PK5.add 11 rjudgeS.pk
theorem PK6_ok : PKsOk Try.prog PK6 := PKsOk.fs (cfg := cfg) PK5_ok (fnOk PK5_ok 21) 11 rfl LP0 fLoops_none rjudgeS rjudge_ok

end Go.Proofs.Ytjohkibidibihaa
