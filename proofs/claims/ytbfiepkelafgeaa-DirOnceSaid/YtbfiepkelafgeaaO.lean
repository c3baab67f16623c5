/- A part of the proof: contracts of functions. -/
import Derived.Test.YtbfiepkelafgeaaP
import Derived.Test.YtbfiepkelafgeaaAbCl

set_option linter.unusedVariables false
set_option linter.unusedSimpArgs false
set_option maxRecDepth 100000
namespace Go.Proofs.Ytbfiepkelafgeaa
open Go Go.Ab
def doHd0 (x : Bool) (l : List Int) (n : Int) : St := { fr := [(0, .slc x (l.map (mkV false [.fi .u8]))), (1, .int .u8 n), (5, .slc true []), (6, .int .i64 0), (7, .int .i64 0), (8, .int .i64 0)], bs := [], df := [] }
def doHd1 (x : Bool) (l : List Int) (n : Int) (F : List File_T) (a b i : Int) : St := { fr := [(0, .slc x (l.map (mkV false [.fi .u8]))), (1, .int .u8 n), (5, .sref 704 0 0 F.length), (6, .int .i64 a), (7, .int .i64 b), (8, .int .i64 i)], bs := [(704, { v := 0, k := .row, fz := false, sz := 3, es := F.map (mkV true File_tfs) })], df := [] }
noncomputable def do_0 (x : Bool) (l : List Int) (n : Int) : Option (St ⊕ (Ex × St)) := stepK Try.prog cfg PK4 LP0 5 0 (doHd0 x l n)
noncomputable def do_1 (x : Bool) (l : List Int) (n : Int) (F : List File_T) (a b i : Int) : Option (St ⊕ (Ex × St)) := stepK Try.prog cfg PK4 LP0 5 0 (doHd1 x l n F a b i)
noncomputable def do_0_r (x : Bool) (l : List Int) (n : Int) : Option (St ⊕ Ex × St) :=
  bK (decide (0 < (↑(List.map (mkV false [Lf.fi IntKind.u8]) l).length : Int)))
  (oK (elemAt false [Lf.fi IntKind.u8] (List.map (mkV false [Lf.fi IntKind.u8]) l) 0) fun (d0 : Int) =>
    bK (decide (0 < d0.tmod 5)) (oK (elemAt false [Lf.fi IntKind.u8] (List.map (mkV false [Lf.fi IntKind.u8]) l) 0) fun (d1 : Int) => bK (decide ([UInt8.ofNat (IntKind.u8.wrap (97 + d1.tmod 5)).toNat] = [UInt8.ofNat (IntKind.u8.wrap (98 + n.tmod 4)).toNat])) (some (Sum.inl { fr := [(0, AV.slc x (List.map (mkV false [Lf.fi IntKind.u8]) l)), (1, AV.int IntKind.u8 n), (5, AV.sref 704 0 0 1), (6, AV.int IntKind.i64 1), (7, AV.int IntKind.i64 0), (8, AV.int IntKind.i64 1)], bs := [(704, { v := 0, k := BK.row, fz := false, sz := 3, es := [AV.agg [AV.str [UInt8.ofNat (IntKind.u8.wrap (97 + d1.tmod 5)).toNat], AV.int IntKind.i64 0, AV.str []]] })], df := [] })) (some (Sum.inl { fr := [(0, AV.slc x (List.map (mkV false [Lf.fi IntKind.u8]) l)), (1, AV.int IntKind.u8 n), (5, AV.sref 704 0 0 1), (6, AV.int IntKind.i64 0), (7, AV.int IntKind.i64 0), (8, AV.int IntKind.i64 1)], bs := [(704, { v := 0, k := BK.row, fz := false, sz := 3, es := [AV.agg [AV.str [UInt8.ofNat (IntKind.u8.wrap (97 + d1.tmod 5)).toNat], AV.int IntKind.i64 0, AV.str []]] })], df := [] }))) (some (Sum.inl { fr := [(0, AV.slc x (List.map (mkV false [Lf.fi IntKind.u8]) l)), (1, AV.int IntKind.u8 n), (5, AV.sref 704 0 0 1), (6, AV.int IntKind.i64 0), (7, AV.int IntKind.i64 1), (8, AV.int IntKind.i64 1)], bs := [(704, { v := 0, k := BK.row, fz := false, sz := 3, es := [AV.agg [AV.str [], AV.int IntKind.i64 0, AV.str []]] })], df := [] })))
  (some (Sum.inr (Ex.exit 0, { fr := [(1, AV.int IntKind.u8 n), (5, AV.slc true []), (6, AV.int IntKind.i64 0), (7, AV.int IntKind.i64 0)], bs := [], df := [] })))
theorem do_0_w (x : Bool) (l : List Int) (n : Int) : do_0 x l n = do_0_r x l n := by kernel_rfl

noncomputable def do_1_r (x : Bool) (l : List Int) (n : Int) (F : List File_T) (a : Int) (b : Int) (i : Int) : Option (St ⊕ Ex × St) :=
  bK (decide (i < (↑(List.map (mkV false [Lf.fi IntKind.u8]) l).length : Int)))
  (oK (elemAt false [Lf.fi IntKind.u8] (List.map (mkV false [Lf.fi IntKind.u8]) l) i) fun (d0 : Int) =>
    bK (decide (0 < d0.tmod 5))
      (oK (elemAt false [Lf.fi IntKind.u8] (List.map (mkV false [Lf.fi IntKind.u8]) l) i) fun (d1 : Int) =>
        bK (decide (0 + F.length ≤ (List.map (mkV true File_tfs) F).length))
          (bK (decide (0 = 0 ∧ F.length = (List.map (mkV true File_tfs) F).length) && bytesFit Try.prog 33 (F.length + 1))
            (bK (decide (a = 0))
              (bK (decide ([UInt8.ofNat (IntKind.u8.wrap (97 + d1.tmod 5)).toNat] = [UInt8.ofNat (IntKind.u8.wrap (98 + n.tmod 4)).toNat])) (bK (decide (b = 0)) (some (Sum.inl { fr := [(0, AV.slc x (List.map (mkV false [Lf.fi IntKind.u8]) l)), (1, AV.int IntKind.u8 n), (5, AV.sref 704 0 0 (F.length + 1)), (6, AV.int IntKind.i64 (IntKind.i64.wrap (i + 1))), (7, AV.int IntKind.i64 b), (8, AV.int IntKind.i64 (IntKind.i64.wrap (i + 1)))], bs := [(704, { v := 0, k := BK.row, fz := false, sz := 3, es := List.take F.length (List.map (mkV true File_tfs) F) ++ [AV.agg [AV.str [UInt8.ofNat (IntKind.u8.wrap (97 + d1.tmod 5)).toNat], AV.int IntKind.i64 0, AV.str []]] })], df := [] })) (some (Sum.inl { fr := [(0, AV.slc x (List.map (mkV false [Lf.fi IntKind.u8]) l)), (1, AV.int IntKind.u8 n), (5, AV.sref 704 0 0 (F.length + 1)), (6, AV.int IntKind.i64 (IntKind.i64.wrap (i + 1))), (7, AV.int IntKind.i64 b), (8, AV.int IntKind.i64 (IntKind.i64.wrap (i + 1)))], bs := [(704, { v := 0, k := BK.row, fz := false, sz := 3, es := List.take F.length (List.map (mkV true File_tfs) F) ++ [AV.agg [AV.str [UInt8.ofNat (IntKind.u8.wrap (97 + d1.tmod 5)).toNat], AV.int IntKind.i64 0, AV.str []]] })], df := [] })))
                (bK (decide (b = 0)) (some (Sum.inl { fr := [(0, AV.slc x (List.map (mkV false [Lf.fi IntKind.u8]) l)), (1, AV.int IntKind.u8 n), (5, AV.sref 704 0 0 (F.length + 1)), (6, AV.int IntKind.i64 a), (7, AV.int IntKind.i64 b), (8, AV.int IntKind.i64 (IntKind.i64.wrap (i + 1)))], bs := [(704, { v := 0, k := BK.row, fz := false, sz := 3, es := List.take F.length (List.map (mkV true File_tfs) F) ++ [AV.agg [AV.str [UInt8.ofNat (IntKind.u8.wrap (97 + d1.tmod 5)).toNat], AV.int IntKind.i64 0, AV.str []]] })], df := [] })) (some (Sum.inl { fr := [(0, AV.slc x (List.map (mkV false [Lf.fi IntKind.u8]) l)), (1, AV.int IntKind.u8 n), (5, AV.sref 704 0 0 (F.length + 1)), (6, AV.int IntKind.i64 a), (7, AV.int IntKind.i64 b), (8, AV.int IntKind.i64 (IntKind.i64.wrap (i + 1)))], bs := [(704, { v := 0, k := BK.row, fz := false, sz := 3, es := List.take F.length (List.map (mkV true File_tfs) F) ++ [AV.agg [AV.str [UInt8.ofNat (IntKind.u8.wrap (97 + d1.tmod 5)).toNat], AV.int IntKind.i64 0, AV.str []]] })], df := [] }))))
              (bK (decide (b = 0)) (some (Sum.inl { fr := [(0, AV.slc x (List.map (mkV false [Lf.fi IntKind.u8]) l)), (1, AV.int IntKind.u8 n), (5, AV.sref 704 0 0 (F.length + 1)), (6, AV.int IntKind.i64 a), (7, AV.int IntKind.i64 b), (8, AV.int IntKind.i64 (IntKind.i64.wrap (i + 1)))], bs := [(704, { v := 0, k := BK.row, fz := false, sz := 3, es := List.take F.length (List.map (mkV true File_tfs) F) ++ [AV.agg [AV.str [UInt8.ofNat (IntKind.u8.wrap (97 + d1.tmod 5)).toNat], AV.int IntKind.i64 0, AV.str []]] })], df := [] })) (some (Sum.inl { fr := [(0, AV.slc x (List.map (mkV false [Lf.fi IntKind.u8]) l)), (1, AV.int IntKind.u8 n), (5, AV.sref 704 0 0 (F.length + 1)), (6, AV.int IntKind.i64 a), (7, AV.int IntKind.i64 b), (8, AV.int IntKind.i64 (IntKind.i64.wrap (i + 1)))], bs := [(704, { v := 0, k := BK.row, fz := false, sz := 3, es := List.take F.length (List.map (mkV true File_tfs) F) ++ [AV.agg [AV.str [UInt8.ofNat (IntKind.u8.wrap (97 + d1.tmod 5)).toNat], AV.int IntKind.i64 0, AV.str []]] })], df := [] }))))
            none)
          none)
      (bK (decide (0 + F.length ≤ (List.map (mkV true File_tfs) F).length))
        (bK (decide (0 = 0 ∧ F.length = (List.map (mkV true File_tfs) F).length) && bytesFit Try.prog 33 (F.length + 1))
          (bK (decide (a = 0)) (bK (decide (b = 0)) (some (Sum.inl { fr := [(0, AV.slc x (List.map (mkV false [Lf.fi IntKind.u8]) l)), (1, AV.int IntKind.u8 n), (5, AV.sref 704 0 0 (F.length + 1)), (6, AV.int IntKind.i64 a), (7, AV.int IntKind.i64 (IntKind.i64.wrap (i + 1))), (8, AV.int IntKind.i64 (IntKind.i64.wrap (i + 1)))], bs := [(704, { v := 0, k := BK.row, fz := false, sz := 3, es := List.take F.length (List.map (mkV true File_tfs) F) ++ [AV.agg [AV.str [], AV.int IntKind.i64 0, AV.str []]] })], df := [] })) (some (Sum.inl { fr := [(0, AV.slc x (List.map (mkV false [Lf.fi IntKind.u8]) l)), (1, AV.int IntKind.u8 n), (5, AV.sref 704 0 0 (F.length + 1)), (6, AV.int IntKind.i64 a), (7, AV.int IntKind.i64 b), (8, AV.int IntKind.i64 (IntKind.i64.wrap (i + 1)))], bs := [(704, { v := 0, k := BK.row, fz := false, sz := 3, es := List.take F.length (List.map (mkV true File_tfs) F) ++ [AV.agg [AV.str [], AV.int IntKind.i64 0, AV.str []]] })], df := [] })))
            (bK (decide (b = 0)) (some (Sum.inl { fr := [(0, AV.slc x (List.map (mkV false [Lf.fi IntKind.u8]) l)), (1, AV.int IntKind.u8 n), (5, AV.sref 704 0 0 (F.length + 1)), (6, AV.int IntKind.i64 a), (7, AV.int IntKind.i64 (IntKind.i64.wrap (i + 1))), (8, AV.int IntKind.i64 (IntKind.i64.wrap (i + 1)))], bs := [(704, { v := 0, k := BK.row, fz := false, sz := 3, es := List.take F.length (List.map (mkV true File_tfs) F) ++ [AV.agg [AV.str [], AV.int IntKind.i64 0, AV.str []]] })], df := [] })) (some (Sum.inl { fr := [(0, AV.slc x (List.map (mkV false [Lf.fi IntKind.u8]) l)), (1, AV.int IntKind.u8 n), (5, AV.sref 704 0 0 (F.length + 1)), (6, AV.int IntKind.i64 a), (7, AV.int IntKind.i64 b), (8, AV.int IntKind.i64 (IntKind.i64.wrap (i + 1)))], bs := [(704, { v := 0, k := BK.row, fz := false, sz := 3, es := List.take F.length (List.map (mkV true File_tfs) F) ++ [AV.agg [AV.str [], AV.int IntKind.i64 0, AV.str []]] })], df := [] }))))
          none)
        none))
  (some (Sum.inr (Ex.exit 0, { fr := [(1, AV.int IntKind.u8 n), (5, AV.sref 704 0 0 F.length), (6, AV.int IntKind.i64 a), (7, AV.int IntKind.i64 b)], bs := [(704, { v := 0, k := BK.row, fz := false, sz := 3, es := List.map (mkV true File_tfs) F })], df := [] })))
theorem do_1_w (x : Bool) (l : List Int) (n : Int) (F : List File_T) (a : Int) (b : Int) (i : Int) : do_1 x l n F a b i = do_1_r x l n F a b i := by kernel_rfl

theorem bytes33 : Try.prog.bytesOf 33 = 40 := by kernel_rfl
theorem fit33 {n : Nat} (h : n ≤ 1000000) : bytesFit Try.prog 33 n = true := by
  simp only [bytesFit, bytes33, decide_eq_true_eq]; omega
def nmC (b : Int) : UInt8 := UInt8.ofNat (IntKind.u8.wrap (97 + b.tmod 5)).toNat
def tgC (n : Int) : UInt8 := UInt8.ofNat (IntKind.u8.wrap (98 + n.tmod 4)).toNat
def nmF (b : Int) : File_T := (if 0 < b.tmod 5 then [nmC b] else [], 0, [])
theorem posN_app (nm : List UInt8) (y : File_T) : ∀ (F : List File_T) (k : Int), 0 ≤ k → posN nm (F ++ [y]) k = if posN nm F k = -1 then (if y.1 = nm then k + F.length else -1) else posN nm F k
  | [], k, hk => by
    show (if y.1 = nm then k else -1) = if (-1 : Int) = -1 then (if y.1 = nm then k + ((0 : Nat) : Int) else -1) else -1
    rw [if_pos (rfl : (-1 : Int) = -1)]
    simp
  | f :: F, k, hk => by
    show (if f.1 = nm then k else posN nm (F ++ [y]) (k + 1)) = if (if f.1 = nm then k else posN nm F (k + 1)) = -1 then _ else (if f.1 = nm then k else posN nm F (k + 1))
    by_cases h : f.1 = nm
    · rw [if_pos h, if_pos h, if_neg (by omega)]
    · rw [if_neg h, if_neg h, posN_app nm y F (k + 1) (by omega)]
      simp only [List.length_cons]
      split
      · split
        · omega
        · rfl
      · rfl
theorem doHd_app (x : Bool) (l : List Int) (n : Int) (F : List File_T) (y : File_T) (a b i : Int) : doHd1 x l n (F ++ [y]) a b i = { fr := [(0, .slc x (l.map (mkV false [.fi .u8]))), (1, .int .u8 n), (5, .sref 704 0 0 (F.length + 1)), (6, .int .i64 a), (7, .int .i64 b), (8, .int .i64 i)], bs := [(704, { v := 0, k := .row, fz := false, sz := 3, es := List.take F.length (F.map (mkV true File_tfs)) ++ [mkV true File_tfs y] })], df := [] } := by
  unfold doHd1
  have e : List.take F.length (F.map (mkV true File_tfs)) = F.map (mkV true File_tfs) := List.take_of_length_le (by simp)
  rw [e, List.length_append, List.map_append]
  rfl
theorem do_step (x : Bool) (l : List Int) (n : Int) (F : List File_T) (i : Nat) (hl : l.length ≤ 12) (hi : i < l.length) (hF : F.length = i) :
    do_1_r x l n F (posN [tgC n] F 0 + 1) (posN [] F 0 + 1) i = some (.inl (doHd1 x l n (F ++ [nmF l[i]]) (posN [tgC n] (F ++ [nmF l[i]]) 0 + 1) (posN [] (F ++ [nmF l[i]]) 0 + 1) ((i : Int) + 1))) := by
  have e0 : IntKind.i64.wrap ((i : Int) + 1) = (i : Int) + 1 := w64 (by omega) (by omega)
  have hi' : (i : Int).toNat < l.length := by omega
  have hg : l.getD (i : Int).toNat (0 : Int) = l[i] := by rw [getD_at hi']; simp
  have ga := posN_ge [tgC n] F 0 (by omega)
  have gb := posN_ge [] F 0 (by omega)
  rw [doHd_app, posN_app _ _ F 0 (by omega), posN_app _ _ F 0 (by omega), hF]
  generalize posN [tgC n] F 0 = A at ga ⊢
  generalize posN [] F 0 = B at gb ⊢
  unfold do_1_r
  rw [e0, bK_pos (by simp; omega)]
  refine (oK_atD (fs := [.fi .u8]) (agg := false) rfl (0 : Int) (by omega) hi').trans ?_
  rw [hg]
  have hne : ¬ ([] : List UInt8) = [tgC n] := by simp
  have hfit : bytesFit Try.prog 33 (F.length + 1) = true := fit33 (by omega)
  refine bK_i (fun c => ?_) (fun c => ?_)
  · refine (oK_atD (fs := [.fi .u8]) (agg := false) rfl (0 : Int) (by omega) hi').trans ?_
    rw [hg]
    have ey : (nmF l[i]).1 = [nmC l[i]] := by unfold nmF; rw [if_pos c]
    have ey2 : nmF l[i] = ([nmC l[i]], 0, []) := by unfold nmF; rw [if_pos c]
    rw [bK_pos (by simp), bK_pos (by simp [hfit])]
    have eb : (if B = -1 then (if (nmF l[i]).1 = [] then (0 : Int) + (i : Int) else -1) else B) = B := by
      rw [ey]
      by_cases hB : B = -1
      · rw [if_pos hB, if_neg (by simp), hB]
      · rw [if_neg hB]
    rw [eb]
    refine bK_i (fun c1 => ?_) (fun c1 => ?_)
    · have hA : A = -1 := by omega
      refine bK_i (fun c2 => ?_) (fun c2 => ?_)
      · have ea : (if A = -1 then (if (nmF l[i]).1 = [tgC n] then (0 : Int) + (i : Int) else -1) else A) + 1 = (i : Int) + 1 := by
          rw [if_pos hA, ey, if_pos (show [nmC l[i]] = [tgC n] from c2)]; omega
        rw [ea, ey2, hF]
        exact bK_i (fun _ => rfl) (fun _ => rfl)
      · have ea : (if A = -1 then (if (nmF l[i]).1 = [tgC n] then (0 : Int) + (i : Int) else -1) else A) = A := by
          rw [if_pos hA, ey, if_neg (show ¬ [nmC l[i]] = [tgC n] from c2)]; omega
        rw [ea, ey2, hF]
        exact bK_i (fun _ => rfl) (fun _ => rfl)
    · have ea : (if A = -1 then (if (nmF l[i]).1 = [tgC n] then (0 : Int) + (i : Int) else -1) else A) = A := by
        rw [if_neg (by omega)]
      rw [ea, ey2, hF]
      exact bK_i (fun _ => rfl) (fun _ => rfl)
  · have ey : (nmF l[i]).1 = [] := by unfold nmF; rw [if_neg c]
    have ey2 : nmF l[i] = ([], 0, []) := by unfold nmF; rw [if_neg c]
    rw [bK_pos (by simp), bK_pos (by simp [hfit])]
    have ea : (if A = -1 then (if (nmF l[i]).1 = [tgC n] then (0 : Int) + (i : Int) else -1) else A) = A := by
      rw [ey]
      by_cases hA : A = -1
      · rw [if_pos hA, if_neg hne, hA]
      · rw [if_neg hA]
    rw [ea]
    have ebp : B + 1 = 0 → (if B = -1 then (if (nmF l[i]).1 = [] then (0 : Int) + (i : Int) else -1) else B) + 1 = (i : Int) + 1 := fun h => by rw [if_pos (by omega), if_pos ey]; omega
    have ebn : ¬ B + 1 = 0 → (if B = -1 then (if (nmF l[i]).1 = [] then (0 : Int) + (i : Int) else -1) else B) = B := fun h => by rw [if_neg (by omega)]
    refine bK_i (fun _ => ?_) (fun _ => ?_)
    · refine bK_i (fun c2 => ?_) (fun c2 => ?_)
      · rw [ebp c2, ey2, hF]; rfl
      · rw [ebn c2, ey2, hF]; rfl
    · refine bK_i (fun c2 => ?_) (fun c2 => ?_)
      · rw [ebp c2, ey2, hF]; rfl
      · rw [ebn c2, ey2, hF]; rfl
def doEnd0 (n : Int) : St := { fr := [(1, .int .u8 n), (5, .slc true []), (6, .int .i64 0), (7, .int .i64 0)], bs := [], df := [] }
def doEnd1 (n : Int) (F : List File_T) (a b : Int) : St := { fr := [(1, .int .u8 n), (5, .sref 704 0 0 F.length), (6, .int .i64 a), (7, .int .i64 b)], bs := [(704, { v := 0, k := .row, fz := false, sz := 3, es := F.map (mkV true File_tfs) })], df := [] }
theorem loops5 : (loopsOf 0 (codeOf Try.prog 5)).map (·.1) = [0] := by kernel_rfl
theorem one5 : OneLoops Try.prog 5 := by unfold OneLoops; rw [loops5]; decide
theorem at5 : At 0 (codeOf Try.prog 5) 0 (.loop (bodyAt Try.prog 5 0)) := at_body one5 (by rw [loops5]; decide)
theorem do_run (x : Bool) (l : List Int) (n : Int) (hl : l.length ≤ 12) : ∀ (j i : Nat), i + j = l.length → ∀ (F : List File_T), F.length = i → ∀ (m : Nat), j < m →
    Runs' Try.prog cfg PK4 5 0 m (doHd1 x l n F (posN [tgC n] F 0 + 1) (posN [] F 0 + 1) i) (.exit 0, let G := F ++ (l.drop i).map nmF; doEnd1 n G (posN [tgC n] G 0 + 1) (posN [] G 0 + 1))
  | 0, i, hi, F, hF, m + 1, hm => by
    rw [List.drop_of_length_le (by omega), List.map_nil, List.append_nil]
    refine Runs'.done (lp := LP0) LPok.none at5 ((do_1_w x l n F _ _ i).trans ?_)
    unfold do_1_r
    rw [bK_neg (by simp; omega)]
    rfl
  | j + 1, i, hi, F, hF, m + 1, hm => by
    have e : l.drop i = l[i] :: l.drop (i + 1) := List.drop_eq_getElem_cons (by omega)
    have ih := do_run x l n hl j (i + 1) (by omega) (F ++ [nmF l[i]]) (by simp [hF]) m (by omega)
    rw [List.append_assoc] at ih
    rw [e]
    exact Runs'.step (lp := LP0) LPok.none at5 ((do_1_w x l n F _ _ i).trans (do_step x l n F i hl (by omega) hF)) ih
theorem do_first (x : Bool) (b : Int) (l : List Int) (n : Int) : do_0_r x (b :: l) n = some (.inl (doHd1 x (b :: l) n [nmF b] (posN [tgC n] [nmF b] 0 + 1) (posN [] [nmF b] 0 + 1) 1)) := by
  have hne : ¬ ([] : List UInt8) = [tgC n] := by simp
  unfold do_0_r
  rw [bK_pos (by simp)]
  refine (oK_atD (fs := [.fi .u8]) (agg := false) rfl (0 : Int) (by omega) (by simp)).trans ?_
  show bK (decide (0 < b.tmod 5)) _ _ = _
  refine bK_i (fun c => ?_) (fun c => ?_)
  · refine (oK_atD (fs := [.fi .u8]) (agg := false) rfl (0 : Int) (by omega) (by simp)).trans ?_
    have ey2 : nmF b = ([nmC b], 0, []) := by unfold nmF; rw [if_pos c]
    rw [ey2]
    have eb : posN [] [(([nmC b], 0, []) : File_T)] 0 + 1 = 0 := by unfold posN; rw [if_neg (by simp)]; rfl
    rw [eb]
    refine bK_i (fun c2 => ?_) (fun c2 => ?_)
    · have ea : posN [tgC n] [(([nmC b], 0, []) : File_T)] 0 + 1 = 1 := by unfold posN; rw [if_pos (show [nmC b] = [tgC n] from c2)]; rfl
      rw [ea]; rfl
    · have ea : posN [tgC n] [(([nmC b], 0, []) : File_T)] 0 + 1 = 0 := by unfold posN; rw [if_neg (show ¬ [nmC b] = [tgC n] from c2)]; rfl
      rw [ea]; rfl
  · have ey2 : nmF b = ([], 0, []) := by unfold nmF; rw [if_neg c]
    rw [ey2]
    have ea : posN [tgC n] [(([], 0, []) : File_T)] 0 + 1 = 0 := by unfold posN; rw [if_neg hne]; rfl
    have eb : posN [] [(([], 0, []) : File_T)] 0 + 1 = 1 := by unfold posN; rw [if_pos rfl]; rfl
    rw [ea, eb]; rfl
abbrev DoD : Type := Bool × List Int × Int
def doH (d : DoD) : St := doHd0 d.1 d.2.1 d.2.2
/-- The files, the first of the name, the first of none. -/
def doG (d : DoD) : List File_T := d.2.1.map nmF
def doA (d : DoD) : Int := posN [tgC d.2.2] (doG d) 0 + 1
def doB (d : DoD) : Int := posN [] (doG d) 0 + 1
noncomputable def doL : LP := LP.of (D := DoD) doH (fun d => d.2.1.length ≤ 12) fun d => .ite (d.2.1.isEmpty) (.leaf (.exit 0, doEnd0 d.2.2)) (.leaf (.exit 0, doEnd1 d.2.2 (doG d) (doA d) (doB d)))
noncomputable def LPd : LPs := LPs.add LP0 5 0 doL
theorem LPd_ok : LPok Try.prog cfg PK4 LPd 5 := LPok.addH LPok.none one5 (by
  rintro ⟨x, l, n⟩ h
  cases l with
  | nil =>
    refine Runs'.done (lp := LP0) (k := rounds - 1) LPok.none at5 ((do_0_w x [] n).trans ?_)
    unfold do_0_r
    rw [bK_neg (by simp)]
    rfl
  | cons b l =>
    have hl : (b :: l).length ≤ 12 := h
    have hr := do_run x (b :: l) n hl l.length 1 (by simp; omega) [nmF b] rfl (rounds - 1) (by simp at hl; simp only [rounds]; omega)
    exact Runs'.step (lp := LP0) (k := rounds - 1) LPok.none at5 ((do_0_w x (b :: l) n).trans (do_first x b l n)) hr)
theorem doH_inj (d d' : DoD) (h : doH d = doH d') : d = d' := by
  obtain ⟨x, l, n⟩ := d
  obtain ⟨x', l', n'⟩ := d'
  simp only [doH, doHd0, St.mk.injEq, List.cons.injEq, Prod.mk.injEq, AV.slc.injEq, AV.int.injEq, and_true, true_and] at h
  obtain ⟨⟨h1, h2⟩, h3⟩ := h
  rw [h1, map_inj (fs := [.fi .u8]) (agg := false) rfl h2, h3]
abbrev dirOnce_id : Nat := 5
abbrev dirOnce_sh : Shp := [none, none]
abbrev dirOnce_fs : List Lf := [.fl false [.fi .u8], .fi .u8]
abbrev dirOnce_rsh : Shp := [none]
abbrev dirOnce_rfs : List Lf := [.fb]
noncomputable def dirOnce_r (l_x : Bool) (l : List Int) (n : Int) : Option Ret :=
  oK (begunS.dec [] []) fun (d0 : PUnit) =>
  bK (decide (12 < (↑(List.map (mkV false [Lf.fi IntKind.u8]) l).length : Int))) (some { pan := false, res := AV.bool true, out := [], new := [] })
    (oK (doL.dec { fr := [(0, AV.slc l_x (List.map (mkV false [Lf.fi IntKind.u8]) l)), (1, AV.int IntKind.u8 n), (5, AV.slc true []), (6, AV.int IntKind.i64 0), (7, AV.int IntKind.i64 0), (8, AV.int IntKind.i64 0)], bs := [], df := [] }) fun (d1 : Bool × List Int × Int) =>
      bK d1.snd.fst.isEmpty (oK (findDS.dec [AV.slc true [], AV.str [UInt8.ofNat (IntKind.u8.wrap (98 + d1.snd.snd.tmod 4)).toNat]] []) fun (d2 : (Bool × List (List UInt8 × Int × List UInt8)) × List UInt8) => oK (roomDS.dec [AV.slc true []] []) fun (d3 : Bool × List (List UInt8 × Int × List UInt8)) => bK (decide ((fdF (d2.fst.fst, d2.fst.snd, d2.snd)).fst = 0)) (bK ((fdF (d2.fst.fst, d2.fst.snd, d2.snd)).snd == false) (bK (decide (posF (d3.fst, d3.snd, []) + 1 = 0)) (some { pan := false, res := AV.bool (decide (0 ≤ posF (d3.fst, d3.snd, [])) == false), out := [], new := [] }) (some { pan := false, res := AV.bool false, out := [], new := [] })) (some { pan := false, res := AV.bool false, out := [], new := [] })) (some { pan := false, res := AV.bool false, out := [], new := [] }))
        (bK (decide (0 + (doG d1).length ≤ (List.map (mkV true File_tfs) (doG d1)).length)) (oK (findDS.dec [AV.slc false (List.take (doG d1).length (List.drop 0 (List.map (mkV true File_tfs) (doG d1)))), AV.str [UInt8.ofNat (IntKind.u8.wrap (98 + d1.snd.snd.tmod 4)).toNat]] []) fun (d4 : (Bool × List (List UInt8 × Int × List UInt8)) × List UInt8) => bK (decide (0 + (doG d1).length ≤ (List.map (mkV true File_tfs) (doG d1)).length)) (oK (roomDS.dec [AV.slc false (List.take (doG d1).length (List.drop 0 (List.map (mkV true File_tfs) (doG d1))))] []) fun (d5 : Bool × List (List UInt8 × Int × List UInt8)) => bK (decide ((fdF (d4.fst.fst, d4.fst.snd, d4.snd)).fst = doA d1)) (bK ((fdF (d4.fst.fst, d4.fst.snd, d4.snd)).snd == decide (0 < doA d1)) (bK (decide (posF (d5.fst, d5.snd, []) + 1 = doB d1)) (some { pan := false, res := AV.bool (decide (0 ≤ posF (d5.fst, d5.snd, [])) == decide (0 < doB d1)), out := [], new := [] }) (some { pan := false, res := AV.bool false, out := [], new := [] })) (some { pan := false, res := AV.bool false, out := [], new := [] })) (some { pan := false, res := AV.bool false, out := [], new := [] })) none) none))
theorem dirOnce_w (l_x : Bool) (l : List Int) (n : Int) : unitQ Try.prog cfg PK4 LPd true 5 (groupA dirOnce_sh (Tu.mk dirOnce_fs ((l_x, l), n))) [] = dirOnce_r l_x l n := by kernel_rfl

theorem tg_may {n : Int} (h : 0 ≤ n ∧ n ≤ 255) : mayN [tgC n] = true := by
  have h0 : 0 ≤ n.tmod 4 := Int.tmod_nonneg _ h.1
  have h1 : n.tmod 4 < 4 := Int.tmod_lt_of_pos _ (by omega)
  unfold tgC
  generalize n.tmod 4 = t at h0 h1 ⊢
  have : t = 0 ∨ t = 1 ∨ t = 2 ∨ t = 3 := by omega
  rcases this with rfl | rfl | rfl | rfl <;> decide
theorem dirOnce_yes (l_x : Bool) (l : List Int) (n : Int) (h : Tu.wf dirOnce_fs ((l_x, l), n)) : Yes (dirOnce_r l_x l n) := by
  obtain ⟨_, hn⟩ := h
  have hn' : (0 : Int) ≤ n ∧ n ≤ 255 := hn
  have hm := tg_may hn'
  unfold dirOnce_r
  refine oK_fsq begunS () trivial ?_
  refine bK_iq (fun _ => yes_leaf) (fun c1 => ?_)
  have hl : l.length ≤ 12 := by simp only [List.length_map] at c1; omega
  refine oK_lpq doH_inj (l_x, l, n) hl ?_
  have h1 : ([tgC n] : List UInt8).length ≤ 1000 := by simp
  refine bK_bq (fun _ => ?_) (fun _ => ?_)
  · refine oK_fsq findDS ((true, []), [tgC n]) ⟨by show (0 : Nat) ≤ 100000; decide, h1⟩ ?_
    refine oK_fsq roomDS (true, []) (by show (0 : Nat) ≤ 100000; decide) ?_
    have e1 : fdF (true, [], [tgC n]) = (0, false) := by unfold fdF; rw [if_pos hm]; rfl
    have e2 : posF (true, [], []) = -1 := rfl
    dsimp only
    rw [e1, e2]
    exact bK_tq (by simp) (bK_tq (by simp) (bK_tq (by simp) (yes_of (by simp))))
  · have hg : (doG (l_x, l, n)).length = l.length := by unfold doG; simp
    have hG : (doG (l_x, l, n)).length ≤ 100000 := by omega
    have e : List.take (doG (l_x, l, n)).length (List.drop 0 (List.map (mkV true File_tfs) (doG (l_x, l, n)))) = List.map (mkV true File_tfs) (doG (l_x, l, n)) := by
      rw [List.drop_zero, List.take_of_length_le (by simp)]
    rw [e]
    refine bK_tq (by simp) ?_
    refine oK_fsq findDS ((false, doG (l_x, l, n)), [tgC n]) ⟨hG, h1⟩ ?_
    refine bK_tq (by simp) ?_
    refine oK_fsq roomDS (false, doG (l_x, l, n)) hG ?_
    have eA : doA (l_x, l, n) = posF (false, doG (l_x, l, n), [tgC n]) + 1 := rfl
    have eB : doB (l_x, l, n) = posF (false, doG (l_x, l, n), []) + 1 := rfl
    have e1 : fdF (false, doG (l_x, l, n), [tgC n]) = (posF (false, doG (l_x, l, n), [tgC n]) + 1, decide (0 ≤ posF (false, doG (l_x, l, n), [tgC n]))) := by unfold fdF; rw [if_pos hm]
    dsimp only
    rw [e1, eA, eB]
    generalize posF (false, doG (l_x, l, n), [tgC n]) = A
    generalize posF (false, doG (l_x, l, n), []) = B
    have key : ∀ z : Int, (decide (0 ≤ z) == decide (0 < z + 1)) = true := fun z => by
      by_cases hz : 0 ≤ z
      · rw [decide_eq_true hz, decide_eq_true (show 0 < z + 1 by omega)]; rfl
      · rw [decide_eq_false hz, decide_eq_false (show ¬ 0 < z + 1 by omega)]; rfl
    exact bK_tq (decide_eq_true rfl) (bK_tq (key A) (bK_tq (decide_eq_true rfl) (yes_of (key B))))

end Go.Proofs.Ytbfiepkelafgeaa
