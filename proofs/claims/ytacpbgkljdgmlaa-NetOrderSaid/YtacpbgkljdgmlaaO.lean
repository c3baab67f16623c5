/- A part of the proof: contracts of functions. -/
import Derived.Test.YtacpbgkljdgmlaaA
import Derived.Test.YtacpbgkljdgmlaaAbAny

set_option linter.unusedVariables false
set_option linter.unusedSimpArgs false
set_option maxRecDepth 100000
namespace Go.Proofs.Ytacpbgkljdgmlaa
open Go Go.Ab
def oh2 (x : Bool) (l : List Int) (y : Bool) (b : List Int) (fx : Bool) (f : List Gram_T) (s c : List UInt8) (i k : Int) : St := { fr := [(0, .slc x (l.map (mkV false [.fi .u8]))), (1, .slc y (b.map (mkV false [.fi .u8]))), (5, .slc fx (f.map (mkV true Gram_tfs))), (6, .str s), (7, .str c), (8, .int .i64 i), (10, .int .i64 k)], bs := [], df := [] }
noncomputable def no_2 (x : Bool) (l : List Int) (y : Bool) (b : List Int) (fx : Bool) (f : List Gram_T) (s c : List UInt8) (i k : Int) : Option (St ⊕ (Ex × St)) := stepK Try.prog cfg A9 LP0 6 2 (oh2 x l y b fx f s c i k)
noncomputable def no_2_r (x : Bool) (l : List Int) (y : Bool) (b : List Int) (fx : Bool) (f : List Gram_T) (s : List UInt8) (c : List UInt8) (i : Int) (k : Int) : Option (St ⊕ Ex × St) :=
  bK (decide (i < (↑(List.map (mkV false [Lf.fi IntKind.u8]) b).length : Int)))
  (oK (elemAt false [Lf.fi IntKind.u8] (List.map (mkV false [Lf.fi IntKind.u8]) b) i) fun (d0 : Int) =>
    bK (decide (k < IntKind.i64.wrap (d0.tmod 3))) (oK (comesS.dec [AV.slc fx (List.map (mkV true Gram_tfs) f), AV.int IntKind.i64 0] []) fun (d1 : (Bool × List (Int × List UInt8 × Bool)) × Int) => bK (!(cOut d1.fst.snd.isEmpty (comesF d1.fst.snd d1.snd)).snd.snd.snd.snd == decide (0 < (↑(List.map (mkV true Gram_tfs) f).length : Int))) (some (Sum.inr (Ex.ret, { fr := [(0, AV.slc x (List.map (mkV false [Lf.fi IntKind.u8]) l)), (1, AV.slc y (List.map (mkV false [Lf.fi IntKind.u8]) b)), (4, AV.bool false), (5, AV.slc fx (List.map (mkV true Gram_tfs) f)), (6, AV.str s), (7, AV.str c), (8, AV.int IntKind.i64 i)], bs := [], df := [] }))) (bK (decide (c.length + List.length (cOut d1.fst.snd.isEmpty (comesF d1.fst.snd d1.snd)).snd.snd.fst < 1000000000)) (some (Sum.inl { fr := [(0, AV.slc x (List.map (mkV false [Lf.fi IntKind.u8]) l)), (1, AV.slc y (List.map (mkV false [Lf.fi IntKind.u8]) b)), (5, AV.slc (cOut d1.fst.snd.isEmpty (comesF d1.fst.snd d1.snd)).fst.fst (List.map (mkV true Gram_tfs) (cOut d1.fst.snd.isEmpty (comesF d1.fst.snd d1.snd)).fst.snd)), (6, AV.str s), (7, AV.str (c ++ (cOut d1.fst.snd.isEmpty (comesF d1.fst.snd d1.snd)).snd.snd.fst)), (8, AV.int IntKind.i64 i), (10, AV.int IntKind.i64 (IntKind.i64.wrap (k + 1)))], bs := [], df := [] })) none))
      (some (Sum.inr (Ex.exit 2, { fr := [(0, AV.slc x (List.map (mkV false [Lf.fi IntKind.u8]) l)), (1, AV.slc y (List.map (mkV false [Lf.fi IntKind.u8]) b)), (5, AV.slc fx (List.map (mkV true Gram_tfs) f)), (6, AV.str s), (7, AV.str c), (8, AV.int IntKind.i64 i)], bs := [], df := [] }))))
  (some (Sum.inr (Ex.exit 2, { fr := [(0, AV.slc x (List.map (mkV false [Lf.fi IntKind.u8]) l)), (1, AV.slc y (List.map (mkV false [Lf.fi IntKind.u8]) b)), (5, AV.slc fx (List.map (mkV true Gram_tfs) f)), (6, AV.str s), (7, AV.str c), (8, AV.int IntKind.i64 i)], bs := [], df := [] })))
theorem no_2_w (x : Bool) (l : List Int) (y : Bool) (b : List Int) (fx : Bool) (f : List Gram_T) (s : List UInt8) (c : List UInt8) (i : Int) (k : Int) : no_2 x l y b fx f s c i k = no_2_r x l y b fx f s c i k := by kernel_rfl

def oh4 (fx : Bool) (f : List Gram_T) (s c : List UInt8) (i : Int) : St := { fr := [(5, .slc fx (f.map (mkV true Gram_tfs))), (6, .str s), (7, .str c), (14, .int .i64 i)], bs := [], df := [] }
noncomputable def no_4 (fx : Bool) (f : List Gram_T) (s c : List UInt8) (i : Int) : Option (St ⊕ (Ex × St)) := stepK Try.prog cfg A9 LP0 6 4 (oh4 fx f s c i)
noncomputable def no_4_r (fx : Bool) (f : List Gram_T) (s : List UInt8) (c : List UInt8) (i : Int) : Option (St ⊕ Ex × St) :=
  bK (decide (i < 40)) (bK (decide (0 < (↑(List.map (mkV true Gram_tfs) f).length : Int))) (oK (comesS.dec [AV.slc fx (List.map (mkV true Gram_tfs) f), AV.int IntKind.i64 0] []) fun (d0 : (Bool × List (Int × List UInt8 × Bool)) × Int) => bK (!(cOut d0.fst.snd.isEmpty (comesF d0.fst.snd d0.snd)).snd.snd.snd.snd) (some (Sum.inr (Ex.ret, { fr := [(4, AV.bool false), (5, AV.slc fx (List.map (mkV true Gram_tfs) f)), (6, AV.str s), (7, AV.str c)], bs := [], df := [] }))) (bK (!decide ((↑(List.map (mkV true Gram_tfs) (cOut d0.fst.snd.isEmpty (comesF d0.fst.snd d0.snd)).fst.snd).length : Int) = IntKind.i64.wrap ((↑(List.map (mkV true Gram_tfs) f).length : Int) - 1))) (some (Sum.inr (Ex.ret, { fr := [(4, AV.bool false), (5, AV.slc fx (List.map (mkV true Gram_tfs) f)), (6, AV.str s), (7, AV.str c)], bs := [], df := [] }))) (bK (decide (c.length + List.length (cOut d0.fst.snd.isEmpty (comesF d0.fst.snd d0.snd)).snd.snd.fst < 1000000000)) (some (Sum.inl { fr := [(5, AV.slc (cOut d0.fst.snd.isEmpty (comesF d0.fst.snd d0.snd)).fst.fst (List.map (mkV true Gram_tfs) (cOut d0.fst.snd.isEmpty (comesF d0.fst.snd d0.snd)).fst.snd)), (6, AV.str s), (7, AV.str (c ++ (cOut d0.fst.snd.isEmpty (comesF d0.fst.snd d0.snd)).snd.snd.fst)), (14, AV.int IntKind.i64 (IntKind.i64.wrap (i + 1)))], bs := [], df := [] })) none))) (some (Sum.inr (Ex.exit 4, { fr := [(5, AV.slc fx (List.map (mkV true Gram_tfs) f)), (6, AV.str s), (7, AV.str c)], bs := [], df := [] }))))
  (some (Sum.inr (Ex.exit 4, { fr := [(5, AV.slc fx (List.map (mkV true Gram_tfs) f)), (6, AV.str s), (7, AV.str c)], bs := [], df := [] })))
theorem no_4_w (fx : Bool) (f : List Gram_T) (s : List UInt8) (c : List UInt8) (i : Int) : no_4 fx f s c i = no_4_r fx f s c i := by kernel_rfl

def flatG (f : List Gram_T) : List UInt8 := (f.map fun g => g.2.1).flatten
/-- What was sent is what came and what is on its way. -/
def OInv (n : Nat) (y : Bool × List Gram_T × List UInt8 × List UInt8) : Prop := y.2.1.length ≤ n ∧ y.2.2.1 = y.2.2.2 ++ flatG y.2.1 ∧ y.2.2.1.length ≤ n
theorem comes0_cons (g : Gram_T) (r : List Gram_T) : comesF (g :: r) 0 = (r, g, true) := by
  unfold comesF
  rw [if_pos ⟨by omega, by simp⟩]
  rfl
theorem comes0_nil : comesF [] 0 = ([], zG, false) := by
  unfold comesF
  rw [if_neg (by simp)]
abbrev OY : Type := Bool × List Gram_T × List UInt8 × List UInt8
def oE2 (x : Bool) (l : List Int) (y : Bool) (b : List Int) (i : Int) (z : OY) : Ex × St := (.exit 2, { fr := [(0, .slc x (l.map (mkV false [.fi .u8]))), (1, .slc y (b.map (mkV false [.fi .u8]))), (5, .slc z.1 (z.2.1.map (mkV true Gram_tfs))), (6, .str z.2.2.1), (7, .str z.2.2.2), (8, .int .i64 i)], bs := [], df := [] })
theorem ol : (loopsOf 0 (codeOf Try.prog 6)).map (·.1) = [0, 2, 4] := by kernel_rfl
theorem oo : OneLoops Try.prog 6 := by unfold OneLoops; rw [ol]; decide
theorem oa0 : At 0 (codeOf Try.prog 6) 0 (.loop (bodyAt Try.prog 6 0)) := at_body oo (by rw [ol]; decide)
theorem oa2 : At 0 (codeOf Try.prog 6) 2 (.loop (bodyAt Try.prog 6 2)) := at_body oo (by rw [ol]; decide)
theorem oa4 : At 0 (codeOf Try.prog 6) 4 (.loop (bodyAt Try.prog 6 4)) := at_body oo (by rw [ol]; decide)
theorem OInv.next {n : Nat} {fx fx' : Bool} {g : Gram_T} {r : List Gram_T} {s c : List UInt8} (h : OInv n (fx, g :: r, s, c)) : OInv n (fx', r, s, c ++ g.2.1) := by
  obtain ⟨h1, h2, h3⟩ := h
  refine ⟨by simp only [List.length_cons] at h1 ⊢; omega, ?_, h3⟩
  simp only at h2 ⊢
  rw [h2, List.append_assoc]
  rfl
theorem o2_run (x : Bool) (l : List Int) (y : Bool) (b : List Int) (n : Nat) (hn : n ≤ 1000) (i : Nat) (hi : i ≤ 100) : ∀ (j k : Nat), k + j = 3 → ∀ (z : OY), OInv n z → ∀ (m : Nat), j < m → ∃ z' : OY, OInv n z' ∧ Runs' Try.prog cfg A9 6 2 m (oh2 x l y b z.1 z.2.1 z.2.2.1 z.2.2.2 i k) (oE2 x l y b i z')
  | j, k, hk, (fx, f, s, c), hz, m + 1, hm => by
    by_cases hb : i < b.length
    · have at_ : ∀ {Q : Option (St ⊕ (Ex × St)) → Prop} {h : Int → Option (St ⊕ (Ex × St))}, Q (h b[i]) → Q (oK (elemAt false [.fi .u8] (b.map (mkV false [.fi .u8])) (i : Int)) h) := fun {Q} {h} hh => oK_atq (agg := false) (fs := [.fi .u8]) (l := b) (n := (i : Int)) (0 : Int) (by omega) (by rw [Int.toNat_natCast]; exact hb) (by rw [Int.toNat_natCast, getD_at hb]; exact hh)
      have ht : IntKind.i64.wrap (Int.tmod b[i] 3) ≤ 2 := by
        have h1 := Int.tmod_lt_of_pos b[i] (show (0 : Int) < 3 by decide)
        have h2 := Int.lt_tmod_of_pos b[i] (show (0 : Int) < 3 by decide)
        rw [w64 (by omega) (by omega)]; omega
      by_cases hv : (k : Int) < IntKind.i64.wrap (Int.tmod b[i] 3)
      · cases j with
        | zero => omega
        | succ j =>
          have e1 : IntKind.i64.wrap ((k : Int) + 1) = ((k + 1 : Nat) : Int) := by rw [w64 (by omega) (by omega)]; omega
          have hf : f.length ≤ 100000 := by have := hz.1; simp only at this; omega
          cases f with
          | nil =>
            obtain ⟨z', h1, h2⟩ := o2_run x l y b n hn i hi j (k + 1) (by omega) (true, [], s, c) hz m (by omega)
            refine ⟨z', h1, Runs'.step (lp := LP0) LPok.none oa2 ((no_2_w x l y b fx [] s c i k).trans ?_) h2⟩
            unfold no_2_r
            rw [e1]
            refine bK_tq (Q := fun z => z = _) (by simp; omega) (at_ (Q := fun z => z = _) (bK_tq (Q := fun z => z = _) (decide_eq_true hv) ?_))
            refine oK_fsq (Q := fun z => z = _) comesS ((fx, []), (0 : Int)) hf ?_
            dsimp only
            rw [comes0_nil]
            refine bK_fq (Q := fun z => z = _) (by simp) (bK_tq (Q := fun z => z = _) ?_ ?_)
            · have := hz.2.2
              have h3 := congrArg List.length hz.2.1
              simp only [List.length_append] at h3
              simp only [zG] at this h3 ⊢
              exact decide_eq_true (by simp; omega)
            · simp only [zG, List.append_nil]
              rfl
          | cons g r =>
            obtain ⟨z', h1, h2⟩ := o2_run x l y b n hn i hi j (k + 1) (by omega) (false, r, s, c ++ g.2.1) (OInv.next hz) m (by omega)
            refine ⟨z', h1, Runs'.step (lp := LP0) LPok.none oa2 ((no_2_w x l y b fx (g :: r) s c i k).trans ?_) h2⟩
            unfold no_2_r
            rw [e1]
            refine bK_tq (Q := fun z => z = _) (by simp; omega) (at_ (Q := fun z => z = _) (bK_tq (Q := fun z => z = _) (decide_eq_true hv) ?_))
            refine oK_fsq (Q := fun z => z = _) comesS ((fx, g :: r), (0 : Int)) hf ?_
            dsimp only
            rw [comes0_cons]
            refine bK_fq (Q := fun z => z = _) (by simp) (bK_tq (Q := fun z => z = _) ?_ rfl)
            have := (OInv.next (fx' := false) hz).2.1
            have h3 := congrArg List.length this
            have h4 := hz.2.2
            simp only [List.length_append] at h3 h4
            simp only
            exact decide_eq_true (by omega)
      · refine ⟨(fx, f, s, c), hz, Runs'.done (lp := LP0) LPok.none oa2 ((no_2_w x l y b fx f s c i k).trans ?_)⟩
        unfold no_2_r
        refine bK_tq (Q := fun z => z = _) (by simp; omega) (at_ (Q := fun z => z = _) (bK_fq (Q := fun z => z = _) (decide_eq_false hv) rfl))
    · refine ⟨(fx, f, s, c), hz, Runs'.done (lp := LP0) LPok.none oa2 ((no_2_w x l y b fx f s c i k).trans ?_)⟩
      unfold no_2_r
      rw [bK_neg (by simp; omega)]
      rfl
abbrev O2D : Type := (Bool × List Int) × (Bool × List Int) × Nat × OY
def o2H (d : O2D) : St := oh2 d.1.1 d.1.2 d.2.1.1 d.2.1.2 d.2.2.2.1 d.2.2.2.2.1 d.2.2.2.2.2.1 d.2.2.2.2.2.2 (d.2.2.1 : Int) 0
def o2P (d : O2D) : Prop := d.2.2.1 ≤ 35 ∧ OInv (d.2.2.1 + 1) d.2.2.2
theorem o2_ex (d : O2D) (h : o2P d) : ∃ z' : OY, OInv (d.2.2.1 + 1) z' ∧ Runs' Try.prog cfg A9 6 2 rounds (o2H d) (oE2 d.1.1 d.1.2 d.2.1.1 d.2.1.2 d.2.2.1 z') := by
  have h1 := h.1
  exact o2_run d.1.1 d.1.2 d.2.1.1 d.2.1.2 (d.2.2.1 + 1) (by omega) d.2.2.1 (by omega) 3 0 (by omega) d.2.2.2 h.2 rounds (by simp only [rounds]; omega)
/-- Behind those that come between. -/
noncomputable def o2R (d : O2D) : OY := open Classical in if h : o2P d then Classical.choose (o2_ex d h) else d.2.2.2
theorem o2R_spec (d : O2D) (h : o2P d) : OInv (d.2.2.1 + 1) (o2R d) ∧ Runs' Try.prog cfg A9 6 2 rounds (o2H d) (oE2 d.1.1 d.1.2 d.2.1.1 d.2.1.2 d.2.2.1 (o2R d)) := by
  unfold o2R
  rw [dif_pos h]
  exact Classical.choose_spec (o2_ex d h)
noncomputable def o2L : LP := LP.of o2H o2P fun d => .leaf (oE2 d.1.1 d.1.2 d.2.1.1 d.2.1.2 d.2.2.1 (o2R d))
noncomputable def o2LP : LPs := LPs.add LP0 6 2 o2L
theorem o2LP_ok : LPok Try.prog cfg A9 o2LP 6 := LPok.addH LPok.none oo fun d h => (o2R_spec d h).2
def oh0 (x : Bool) (l : List Int) (y : Bool) (b : List Int) (fx : Bool) (f : List Gram_T) (s c : List UInt8) (i : Int) : St := { fr := [(0, .slc x (l.map (mkV false [.fi .u8]))), (1, .slc y (b.map (mkV false [.fi .u8]))), (5, .slc fx (f.map (mkV true Gram_tfs))), (6, .str s), (7, .str c), (8, .int .i64 i)], bs := [], df := [] }
noncomputable def no_0 (x : Bool) (l : List Int) (y : Bool) (b : List Int) (fx : Bool) (f : List Gram_T) (s c : List UInt8) (i : Int) : Option (St ⊕ (Ex × St)) := stepK Try.prog cfg A9 o2LP 6 0 (oh0 x l y b fx f s c i)
noncomputable def no_0_r (x : Bool) (l : List Int) (y : Bool) (b : List Int) (fx : Bool) (f : List Gram_T) (s : List UInt8) (c : List UInt8) (i : Int) : Option (St ⊕ Ex × St) :=
  bK (decide (i < (↑(List.map (mkV false [Lf.fi IntKind.u8]) l).length : Int))) (oK (elemAt false [Lf.fi IntKind.u8] (List.map (mkV false [Lf.fi IntKind.u8]) l) i) fun (d0 : Int) => oK (sendS.dec [AV.slc fx (List.map (mkV true Gram_tfs) f), AV.agg [AV.int IntKind.i64 1, AV.str [UInt8.ofNat (IntKind.u8.wrap (97 + d0.tmod 26)).toNat], AV.bool false]] []) fun (d1 : (Bool × List (Int × List UInt8 × Bool)) × Int × List UInt8 × Bool) => bK (decide (s.length + 1 < 1000000000)) (oK (o2L.dec { fr := [(0, AV.slc x (List.map (mkV false [Lf.fi IntKind.u8]) l)), (1, AV.slc y (List.map (mkV false [Lf.fi IntKind.u8]) b)), (5, AV.slc false (List.map (mkV true Gram_tfs) (sendF d1.fst.snd d1.snd))), (6, AV.str (s ++ [UInt8.ofNat (IntKind.u8.wrap (97 + d0.tmod 26)).toNat])), (7, AV.str c), (8, AV.int IntKind.i64 i), (10, AV.int IntKind.i64 0)], bs := [], df := [] }) fun (d2 : (Bool × List Int) × (Bool × List Int) × Nat × Bool × List (Int × List UInt8 × Bool) × List UInt8 × List UInt8) => some (Sum.inl { fr := [(0, AV.slc d2.fst.fst (List.map (mkV false [Lf.fi IntKind.u8]) d2.fst.snd)), (1, AV.slc d2.snd.fst.fst (List.map (mkV false [Lf.fi IntKind.u8]) d2.snd.fst.snd)), (5, AV.slc (o2R d2).fst (List.map (mkV true Gram_tfs) (o2R d2).snd.fst)), (6, AV.str (o2R d2).snd.snd.fst), (7, AV.str (o2R d2).snd.snd.snd), (8, AV.int IntKind.i64 (IntKind.i64.wrap ((↑d2.snd.snd.fst : Int) + 1)))], bs := [], df := [] })) none)
  (some (Sum.inr (Ex.exit 0, { fr := [(5, AV.slc fx (List.map (mkV true Gram_tfs) f)), (6, AV.str s), (7, AV.str c)], bs := [], df := [] })))
theorem no_0_w (x : Bool) (l : List Int) (y : Bool) (b : List Int) (fx : Bool) (f : List Gram_T) (s : List UInt8) (c : List UInt8) (i : Int) : no_0 x l y b fx f s c i = no_0_r x l y b fx f s c i := by kernel_rfl

theorem o2H_inj (d d' : O2D) (h : o2H d = o2H d') : d = d' := by
  obtain ⟨⟨x, l⟩, ⟨y, b⟩, i, fx, f, s, c⟩ := d
  obtain ⟨⟨x', l'⟩, ⟨y', b'⟩, i', fx', f', s', c'⟩ := d'
  simp only [o2H, oh2, St.mk.injEq, List.cons.injEq, Prod.mk.injEq, AV.slc.injEq, AV.str.injEq, AV.int.injEq, and_true, true_and] at h
  obtain ⟨⟨h1, h2⟩, ⟨h3, h4⟩, ⟨h5, h6⟩, h7, h8, h9⟩ := h
  have e1 : l = l' := map_inj (agg := false) (fs := [.fi .u8]) rfl h2
  have e2 : b = b' := map_inj (agg := false) (fs := [.fi .u8]) rfl h4
  have e3 := map_inj (fs := Gram_tfs) rfl h6
  have e4 : i = i' := by omega
  rw [h1, e1, h3, e2, h5, e3, h7, h8, e4]
def oE0 (z : OY) : Ex × St := (.exit 0, { fr := [(5, .slc z.1 (z.2.1.map (mkV true Gram_tfs))), (6, .str z.2.2.1), (7, .str z.2.2.2)], bs := [], df := [] })
theorem OInv.send {n : Nat} {fx fx' : Bool} {f : List Gram_T} {s c B : List UInt8} (hn : n ≤ 35) (hB : B.length = 1) (h : OInv n (fx, f, s, c)) : OInv (n + 1) (fx', sendF f (1, B, false), s ++ B, c) := by
  obtain ⟨h1, h2, h3⟩ := h
  simp only at h1 h2 h3
  have e : sendF f (1, B, false) = f ++ [(1, B, false)] := by unfold sendF; rw [if_pos (by omega)]
  refine ⟨?_, ?_, ?_⟩
  · simp only [e, List.length_append, List.length_cons, List.length_nil]; omega
  · simp only [e, h2, flatG, List.map_append, List.flatten_append, List.append_assoc]
    simp
  · simp only [List.length_append, hB]; omega
theorem OInv.mono {n m : Nat} (h : n ≤ m) {z : OY} (hz : OInv n z) : OInv m z := ⟨Nat.le_trans hz.1 h, hz.2.1, Nat.le_trans hz.2.2 h⟩
theorem o0_run (x : Bool) (l : List Int) (y : Bool) (b : List Int) (hl : l.length ≤ 35) : ∀ (j i : Nat), i + j = l.length → ∀ (z : OY), OInv i z → ∀ (m : Nat), j < m → ∃ z' : OY, OInv 35 z' ∧ Runs' Try.prog cfg A9 6 0 m (oh0 x l y b z.1 z.2.1 z.2.2.1 z.2.2.2 i) (oE0 z')
  | 0, i, hi, (fx, f, s, c), hz, m + 1, hm => by
    refine ⟨(fx, f, s, c), hz.mono (by omega), Runs'.done (lp := o2LP) o2LP_ok oa0 ((no_0_w x l y b fx f s c i).trans ?_)⟩
    unfold no_0_r
    rw [bK_neg (by simp; omega)]
    rfl
  | j + 1, i, hi, (fx, f, s, c), hz, m + 1, hm => by
    have hi' : i < l.length := by omega
    have e1 : IntKind.i64.wrap ((i : Int) + 1) = ((i + 1 : Nat) : Int) := by rw [w64 (by omega) (by omega)]; omega
    have hs := OInv.send (B := [UInt8.ofNat (IntKind.u8.wrap (97 + Int.tmod l[i] 26)).toNat]) (fx' := false) (by omega) rfl hz
    have hp : o2P ((x, l), (y, b), i, (false, sendF f (1, [UInt8.ofNat (IntKind.u8.wrap (97 + Int.tmod l[i] 26)).toNat], false), s ++ [UInt8.ofNat (IntKind.u8.wrap (97 + Int.tmod l[i] 26)).toNat], c)) := ⟨by show i ≤ 35; omega, hs⟩
    obtain ⟨z', h1, h2⟩ := o0_run x l y b hl j (i + 1) (by omega) _ (o2R_spec _ hp).1 m (by omega)
    refine ⟨z', h1, Runs'.step (lp := o2LP) o2LP_ok oa0 ((no_0_w x l y b fx f s c i).trans ?_) h2⟩
    have at_ : ∀ {Q : Option (St ⊕ (Ex × St)) → Prop} {h : Int → Option (St ⊕ (Ex × St))}, Q (h l[i]) → Q (oK (elemAt false [.fi .u8] (l.map (mkV false [.fi .u8])) (i : Int)) h) := fun {Q} {h} hh => oK_atq (agg := false) (fs := [.fi .u8]) (l := l) (n := (i : Int)) (0 : Int) (by omega) (by rw [Int.toNat_natCast]; exact hi') (by rw [Int.toNat_natCast, getD_at hi']; exact hh)
    have hf : f.length ≤ 100000 := by have := hz.1; simp only at this; omega
    have hsl : s.length ≤ 100 := by have := hz.2.2; simp only at this; omega
    unfold no_0_r
    refine bK_tq (Q := fun z => z = _) (by simp; omega) (at_ (Q := fun z => z = _) ?_)
    refine oK_fsq (Q := fun z => z = _) sendS ((fx, f), ((1 : Int), [UInt8.ofNat (IntKind.u8.wrap (97 + Int.tmod l[i] 26)).toNat], false)) hf ?_
    refine bK_tq (Q := fun z => z = _) (decide_eq_true (by omega)) ?_
    refine oK_lpq (Q := fun z => z = _) o2H_inj ((x, l), (y, b), i, (false, sendF f (1, [UInt8.ofNat (IntKind.u8.wrap (97 + Int.tmod l[i] 26)).toNat], false), s ++ [UInt8.ofNat (IntKind.u8.wrap (97 + Int.tmod l[i] 26)).toNat], c)) hp ?_
    dsimp only
    rw [e1]
    rfl
abbrev O0D : Type := (Bool × List Int) × (Bool × List Int)
def o0H (d : O0D) : St := oh0 d.1.1 d.1.2 d.2.1 d.2.2 true [] [] [] 0
theorem o0_ex (d : O0D) (h : d.1.2.length ≤ 35) : ∃ z' : OY, OInv 35 z' ∧ Runs' Try.prog cfg A9 6 0 rounds (o0H d) (oE0 z') :=
  o0_run d.1.1 d.1.2 d.2.1 d.2.2 h d.1.2.length 0 (by omega) (true, [], [], []) ⟨Nat.le_refl _, rfl, Nat.le_refl _⟩ rounds (by simp only [rounds]; omega)
/-- When all is sent. -/
noncomputable def o0R (d : O0D) : OY := open Classical in if h : d.1.2.length ≤ 35 then Classical.choose (o0_ex d h) else (true, [], [], [])
theorem o0R_spec (d : O0D) (h : d.1.2.length ≤ 35) : OInv 35 (o0R d) ∧ Runs' Try.prog cfg A9 6 0 rounds (o0H d) (oE0 (o0R d)) := by
  unfold o0R
  rw [dif_pos h]
  exact Classical.choose_spec (o0_ex d h)
noncomputable def o0L : LP := LP.of o0H (fun d => d.1.2.length ≤ 35) fun d => .leaf (oE0 (o0R d))
noncomputable def o0LP : LPs := LPs.add o2LP 6 0 o0L
theorem o0LP_ok : LPok Try.prog cfg A9 o0LP 6 := LPok.addH o2LP_ok oo fun d h => (o0R_spec d h).2
theorem o0H_inj (d d' : O0D) (h : o0H d = o0H d') : d = d' := by
  obtain ⟨⟨x, l⟩, y, b⟩ := d
  obtain ⟨⟨x', l'⟩, y', b'⟩ := d'
  simp only [o0H, oh0, St.mk.injEq, List.cons.injEq, Prod.mk.injEq, AV.slc.injEq, and_true, true_and] at h
  obtain ⟨⟨h1, h2⟩, h3, h4⟩ := h
  have e1 : l = l' := map_inj (agg := false) (fs := [.fi .u8]) rfl h2
  have e2 : b = b' := map_inj (agg := false) (fs := [.fi .u8]) rfl h4
  rw [h1, e1, h3, e2]
def oE4 (z : OY) : Ex × St := (.exit 4, { fr := [(5, .slc z.1 (z.2.1.map (mkV true Gram_tfs))), (6, .str z.2.2.1), (7, .str z.2.2.2)], bs := [], df := [] })
theorem o4_run : ∀ (f : List Gram_T) (i : Nat) (fx : Bool) (s c : List UInt8), i + f.length ≤ 35 → OInv 35 (fx, f, s, c) → ∀ (m : Nat), f.length < m → ∃ fx', Runs' Try.prog cfg A9 6 4 m (oh4 fx f s c i) (oE4 (fx', [], s, s))
  | [], i, fx, s, c, hi, hz, m + 1, hm => by
    have e : s = c := by have := hz.2.1; simpa [flatG] using this
    refine ⟨fx, Runs'.done (lp := o0LP) o0LP_ok oa4 ((no_4_w fx [] s c i).trans ?_)⟩
    unfold no_4_r
    rw [bK_pos (decide_eq_true (by omega)), bK_neg (by simp), e]
    rfl
  | g :: r, i, fx, s, c, hi, hz, m + 1, hm => by
    simp only [List.length_cons] at hi hm
    obtain ⟨fx', h2⟩ := o4_run r (i + 1) false s (c ++ g.2.1) (by omega) (OInv.next hz) m (by omega)
    refine ⟨fx', Runs'.step (lp := o0LP) o0LP_ok oa4 ((no_4_w fx (g :: r) s c i).trans ?_) h2⟩
    have e1 : IntKind.i64.wrap ((i : Int) + 1) = ((i + 1 : Nat) : Int) := by rw [w64 (by omega) (by omega)]; omega
    unfold no_4_r
    rw [e1]
    refine bK_tq (Q := fun z => z = _) (decide_eq_true (by omega)) (bK_tq (Q := fun z => z = _) (by simp) ?_)
    refine oK_fsq (Q := fun z => z = _) comesS ((fx, g :: r), (0 : Int)) (by show (g :: r).length ≤ 100000; simp; omega) ?_
    dsimp only
    rw [comes0_cons]
    have e2 : IntKind.i64.wrap ((((g :: r).map (mkV true Gram_tfs)).length : Int) - 1) = (((r.map (mkV true Gram_tfs)).length : Nat) : Int) := by rw [List.map_cons, List.length_cons, w64 (by omega) (by rw [List.length_map]; omega)]; omega
    refine bK_fq (Q := fun z => z = _) rfl (bK_fq (Q := fun z => z = _) ?_ (bK_tq (Q := fun z => z = _) ?_ rfl))
    · dsimp only
      rw [e2]
      simp
    · have := (OInv.next (fx' := false) hz).2.1
      have h3 := congrArg List.length this
      have h4 := hz.2.2
      simp only [List.length_append] at h3 h4
      simp only
      exact decide_eq_true (by omega)
def o4H (z : OY) : St := oh4 z.1 z.2.1 z.2.2.1 z.2.2.2 0
theorem o4_ex (z : OY) (h : OInv 35 z) : ∃ fx', Runs' Try.prog cfg A9 6 4 rounds (o4H z) (oE4 (fx', [], z.2.2.1, z.2.2.1)) :=
  o4_run z.2.1 0 z.1 z.2.2.1 z.2.2.2 (by have := h.1; omega) h rounds (by have := h.1; simp only [rounds]; omega)
/-- When all has come. -/
noncomputable def o4R (z : OY) : Bool := open Classical in if h : OInv 35 z then Classical.choose (o4_ex z h) else true
theorem o4R_spec (z : OY) (h : OInv 35 z) : Runs' Try.prog cfg A9 6 4 rounds (o4H z) (oE4 (o4R z, [], z.2.2.1, z.2.2.1)) := by
  unfold o4R
  rw [dif_pos h]
  exact Classical.choose_spec (o4_ex z h)
noncomputable def o4L : LP := LP.of o4H (OInv 35) fun z => .leaf (oE4 (o4R z, [], z.2.2.1, z.2.2.1))
noncomputable def o4LP : LPs := LPs.add o0LP 6 4 o4L
theorem o4LP_ok : LPok Try.prog cfg A9 o4LP 6 := LPok.addH o0LP_ok oo fun z h => o4R_spec z h
theorem o4H_inj (d d' : OY) (h : o4H d = o4H d') : d = d' := by
  obtain ⟨fx, f, s, c⟩ := d
  obtain ⟨fx', f', s', c'⟩ := d'
  simp only [o4H, oh4, St.mk.injEq, List.cons.injEq, Prod.mk.injEq, AV.slc.injEq, AV.str.injEq, and_true, true_and] at h
  have e1 := map_inj (fs := Gram_tfs) rfl h.1.2
  rw [h.1.1, e1, h.2.1, h.2.2]
abbrev netOrder_id : Nat := 6
abbrev netOrder_sh : Shp := [none, none]
abbrev netOrder_fs : List Lf := [.fl false [.fi .u8], .fl false [.fi .u8]]
abbrev netOrder_rsh : Shp := [none]
abbrev netOrder_rfs : List Lf := [.fb]
noncomputable def netOrder_r (l_x : Bool) (l : List Int) (between_x : Bool) (between : List Int) : Option Ret :=
  oK (begunS.dec [] []) fun (d0 : PUnit) => bK (decide (35 < (↑(List.map (mkV false [Lf.fi IntKind.u8]) l).length : Int))) (some { pan := false, res := AV.bool true, out := [], new := [] }) (bK (decide (35 < (↑(List.map (mkV false [Lf.fi IntKind.u8]) between).length : Int))) (some { pan := false, res := AV.bool true, out := [], new := [] }) (oK (o0L.dec { fr := [(0, AV.slc l_x (List.map (mkV false [Lf.fi IntKind.u8]) l)), (1, AV.slc between_x (List.map (mkV false [Lf.fi IntKind.u8]) between)), (5, AV.slc true []), (6, AV.str []), (7, AV.str []), (8, AV.int IntKind.i64 0)], bs := [], df := [] }) fun (d1 : (Bool × List Int) × Bool × List Int) => oK (o4L.dec { fr := [(5, AV.slc (o0R d1).fst (List.map (mkV true Gram_tfs) (o0R d1).snd.fst)), (6, AV.str (o0R d1).snd.snd.fst), (7, AV.str (o0R d1).snd.snd.snd), (14, AV.int IntKind.i64 0)], bs := [], df := [] }) fun (d2 : Bool × List (Int × List UInt8 × Bool) × List UInt8 × List UInt8) => bK (decide (d2.snd.snd.fst = d2.snd.snd.fst)) (some { pan := false, res := AV.bool true, out := [], new := [] }) (some { pan := false, res := AV.bool false, out := [], new := [] })))
theorem netOrder_w (l_x : Bool) (l : List Int) (between_x : Bool) (between : List Int) : unitQ Try.prog cfg A9 o4LP true 6 (groupA netOrder_sh (Tu.mk netOrder_fs ((l_x, l), (between_x, between)))) [] = netOrder_r l_x l between_x between := by kernel_rfl

theorem netOrder_yes (l_x : Bool) (l : List Int) (between_x : Bool) (between : List Int) (h : Tu.wf netOrder_fs ((l_x, l), (between_x, between))) : Yes (netOrder_r l_x l between_x between) := by
  unfold netOrder_r
  refine oK_fsq begunS () trivial ?_
  refine bK_iq (fun _ => yes_leaf) (fun h1 => bK_iq (fun _ => yes_leaf) (fun h2 => ?_))
  have hl : l.length ≤ 35 := by rw [List.length_map] at h1; omega
  refine oK_lpq o0H_inj ((l_x, l), (between_x, between)) hl ?_
  refine oK_lpq o4H_inj (o0R ((l_x, l), (between_x, between))) (o0R_spec _ hl).1 ?_
  exact bK_tq (decide_eq_true rfl) yes_leaf

end Go.Proofs.Ytacpbgkljdgmlaa
