/- A part of the proof: contracts of functions. -/
import Derived.Test.YtacpbgkljdgmlaaB
import Derived.Test.YtacpbgkljdgmlaaAbAny

set_option linter.unusedVariables false
set_option linter.unusedSimpArgs false
set_option maxRecDepth 100000
namespace Go.Proofs.Ytacpbgkljdgmlaa
open Go Go.Ab
def nearN (g : Gram_T) (want : Int) : List Gram_T → Bool → Bool
  | [], b => b
  | s :: r, b => nearN g want r (b || (decide (aptQ g.2.1 s.2.1 = want) && decide (g.1 = 2)))
/-- Is one near? -/
def nearQ (f : List Gram_T) (k : Int) (want : Int) (s : List Gram_T) (b : Bool) : Bool := nearN (f.getD k.toNat zG) want s b
theorem loops4 : (loopsOf 0 (codeOf Try.prog 4)).map (·.1) = [0, 3, 5] := by kernel_rfl
theorem one4 : OneLoops Try.prog 4 := by unfold OneLoops; rw [loops4]; decide
theorem at40 : At 0 (codeOf Try.prog 4) 0 (.loop (bodyAt Try.prog 4 0)) := at_body one4 (by rw [loops4]; decide)
theorem at43 : At 0 (codeOf Try.prog 4) 3 (.loop (bodyAt Try.prog 4 3)) := at_body one4 (by rw [loops4]; decide)
theorem at45 : At 0 (codeOf Try.prog 4) 5 (.loop (bodyAt Try.prog 4 5)) := at_body one4 (by rw [loops4]; decide)
def n5e (x : Bool) (l : List Row4) (fx : Bool) (f : List Gram_T) (s : List Gram_T) (i k : Int) (near : Bool) : Ex × St := (.exit 5, { fr := [(0, .slc x (l.map (mkV true Row4_fs))), (3, .slc fx (f.map (mkV true Gram_tfs))), (4, .sref 1280 0 0 (s.map (mkV true Gram_tfs)).length), (5, .int .i64 i), (9, .int .i64 k), (10, .bool near)], bs := sentB s, df := [] })
theorem ldG1 (l : List Gram_T) (i : Nat) (h : i < l.length) : ldRow [Lf.fs] (l.map (mkV true Gram_tfs)) i 1 = some l[i].2.1 := by
  simp [ldRow, h, ldCells, mkV, mkA, AV.cells, Tu.mk, Lf.mk, Tu.dec, Lf.dec]
theorem n5_run (x : Bool) (l : List Row4) (fx : Bool) (f : List Gram_T) (s : List Gram_T) (i : Int) (k : Nat) (hk : k < f.length) (hf : ∀ g ∈ f, g.2.1.length ≤ 1000) (hl : s.length ≤ 1000) (want : Int) : ∀ (j m : Nat), m + j = s.length → ∀ (near : Bool), ∀ (r : Nat), j < r → Runs' Try.prog cfg B1 4 5 r (n5h x l fx f s i k near want m) (n5e x l fx f s i k (nearN (f.getD k zG) want (s.drop m) near))
  | 0, m, hm, near, r + 1, hr => by
    rw [List.drop_of_length_le (by omega)]
    refine Runs'.done (lp := LP0) LPok.none at45 ((n5_s_w x l fx f s i k near want m).trans ?_)
    unfold n5_s_r
    rw [bK_pos (decide_eq_true (by omega)), bK_neg (by rw [List.length_map]; exact decide_eq_false (by omega))]
    rfl
  | j + 1, m, hm, near, r + 1, hr => by
    have hm' : m < s.length := by omega
    have e : s.drop m = s[m] :: s.drop (m + 1) := List.drop_eq_getElem_cons hm'
    have e3 : IntKind.i64.wrap ((m : Int) + 1) = ((m + 1 : Nat) : Int) := by rw [w64 (by omega) (by omega)]; omega
    have hs : n5_s x l fx f s i k near want m = some (.inl (n5h x l fx f s i k (near || (decide (aptQ (f.getD k zG).2.1 s[m].2.1 = want) && decide ((f.getD k zG).1 = 2))) want ((m + 1 : Nat) : Int))) := by
      refine (n5_s_w x l fx f s i k near want m).trans ?_
      unfold n5_s_r
      rw [e3, bK_pos (decide_eq_true (by omega)), bK_pos (by rw [List.length_map]; exact decide_eq_true (by omega))]
      cases near with
      | true => rfl
      | false =>
        rw [bK_neg rfl]
        refine oK_atq (Q := fun z => z = _) (fs := Gram_tfs) zG (by omega) (by rw [Int.toNat_natCast]; exact hk) ?_
        rw [bK_pos (by rw [List.length_map]; exact decide_eq_true (by omega)), bK_pos (by rw [List.length_map, Int.toNat_natCast]; exact decide_eq_true (by omega)), Int.toNat_natCast, Int.toNat_natCast, Nat.zero_add, ldG1 s m hm', oK_some]
        refine oK_fsq (Q := fun z => z = _) apartS ((f.getD k zG).2.1, s[m].2.1) (by show (f.getD k zG).2.1.length ≤ 1000; rw [getD_at hk]; exact hf _ (List.getElem_mem hk)) ?_
        refine bK_iq (Q := fun z => z = _) (fun c => ?_) (fun c => ?_)
        · refine oK_atq (Q := fun z => z = _) (fs := Gram_tfs) zG (by omega) (by rw [Int.toNat_natCast]; exact hk) ?_
          rw [Int.toNat_natCast, decide_eq_true c]; rfl
        · rw [decide_eq_false c]; rfl
    rw [e]
    exact Runs'.step (lp := LP0) LPok.none at45 hs (n5_run x l fx f s i k hk hf hl want j (m + 1) (by omega) _ r (by omega))
abbrev N5D : Type := (Bool × List Row4) × (Bool × List Gram_T) × List Gram_T × Int × Int × Bool × Int
def n5Hd (d : N5D) : St := n5h d.1.1 d.1.2 d.2.1.1 d.2.1.2 d.2.2.1 d.2.2.2.1 d.2.2.2.2.1 d.2.2.2.2.2.1 d.2.2.2.2.2.2 0
def n5P (d : N5D) : Prop := ((0 ≤ d.2.2.2.2.1 ∧ d.2.2.2.2.1 < (d.2.1.2.length : Int)) ∧ ∀ g ∈ d.2.1.2, g.2.1.length ≤ 1000) ∧ d.2.2.1.length ≤ 1000
noncomputable def n5L : LP := LP.of n5Hd n5P fun d => .leaf (.exit 5, { fr := [(0, .slc d.1.1 (d.1.2.map (mkV true Row4_fs))), (3, .slc d.2.1.1 (d.2.1.2.map (mkV true Gram_tfs))), (4, .sref 1280 0 0 (d.2.2.1.map (mkV true Gram_tfs)).length), (5, .int .i64 d.2.2.2.1), (9, .int .i64 d.2.2.2.2.1), (10, .bool (nearQ d.2.1.2 d.2.2.2.2.1 d.2.2.2.2.2.2 d.2.2.1 d.2.2.2.2.2.1))], bs := sentB d.2.2.1, df := [] })
noncomputable def n5LP : LPs := LPs.add LP0 4 5 n5L
theorem n5LP_ok : LPok Try.prog cfg B1 n5LP 4 := LPok.addH LPok.none one4 (by
  rintro ⟨⟨x, l⟩, ⟨fx, f⟩, s, i, k, near, want⟩ ⟨⟨⟨h1, h2⟩, h3⟩, h4⟩
  simp only at h1 h2 h3 h4
  have := n5_run x l fx f s i k.toNat (by omega) h3 h4 want s.length 0 (by omega) near rounds (by simp only [rounds]; omega)
  rw [List.drop_zero, Int.toNat_of_nonneg h1] at this
  exact this)
theorem n5Hd_inj (d d' : N5D) (h : n5Hd d = n5Hd d') : d = d' := by
  obtain ⟨⟨x, l⟩, ⟨fx, f⟩, s, i, k, near, want⟩ := d
  obtain ⟨⟨x', l'⟩, ⟨fx', f'⟩, s', i', k', near', want'⟩ := d'
  simp only [n5Hd, n5h, sentB, St.mk.injEq, List.cons.injEq, Prod.mk.injEq, AV.slc.injEq, AV.sref.injEq, AV.int.injEq, AV.bool.injEq, Blk.mk.injEq, and_true, true_and] at h
  obtain ⟨⟨⟨h1, h2⟩, ⟨h3, h4⟩, _, h5, h6, h7, h8⟩, h9⟩ := h
  rw [h1, map_inj (fs := Row4_fs) rfl h2, h3, map_inj (fs := Gram_tfs) rfl h4, map_inj (fs := Gram_tfs) rfl h9, h5, h6, h7, h8]
def n3h (x : Bool) (l : List Row4) (fx : Bool) (f : List Gram_T) (s : List Gram_T) (i k : Int) : St := { fr := [(0, .slc x (l.map (mkV true Row4_fs))), (3, .slc fx (f.map (mkV true Gram_tfs))), (4, .sref 1280 0 0 (s.map (mkV true Gram_tfs)).length), (5, .int .i64 i), (9, .int .i64 k)], bs := sentB s, df := [] }
noncomputable def n3_s (x : Bool) (l : List Row4) (fx : Bool) (f : List Gram_T) (s : List Gram_T) (i k : Int) : Option (St ⊕ (Ex × St)) := stepK Try.prog cfg B1 n5LP 4 3 (n3h x l fx f s i k)
noncomputable def n3_s_r (x : Bool) (l : List Row4) (fx : Bool) (f : List Gram_T) (s : List Gram_T) (i : Int) (k : Int) : Option (St ⊕ Ex × St) :=
  bK (decide (k < (↑(List.map (mkV true Gram_tfs) f).length : Int)))
  (oK (elemAt true Gram_tfs (List.map (mkV true Gram_tfs) f) k) fun (d0 : Int × List UInt8 × Bool) =>
    bK d0.snd.snd
      (oK (n5L.dec { fr := [(0, AV.slc x (List.map (mkV true [Lf.fi IntKind.u8, Lf.fi IntKind.u8, Lf.fi IntKind.u8, Lf.fi IntKind.u8]) l)), (3, AV.slc fx (List.map (mkV true Gram_tfs) f)), (4, AV.sref 1280 0 0 (List.map (mkV true Gram_tfs) s).length), (5, AV.int IntKind.i64 i), (9, AV.int IntKind.i64 k), (10, AV.bool false), (11, AV.int IntKind.i64 1), (12, AV.int IntKind.i64 0)], bs := [(1280, { v := 0, k := BK.row, fz := false, sz := 3, es := List.map (mkV true Gram_tfs) s })], df := [] }) fun (d1 : (Bool × List (Int × Int × Int × Int)) × (Bool × List (Int × List UInt8 × Bool)) × List (Int × List UInt8 × Bool) × Int × Int × Bool × Int) =>
        bK (!nearQ d1.snd.fst.snd d1.snd.snd.snd.snd.fst d1.snd.snd.snd.snd.snd.snd d1.snd.snd.fst d1.snd.snd.snd.snd.snd.fst) (some (Sum.inr (Ex.ret, { fr := [(0, AV.slc d1.fst.fst (List.map (mkV true [Lf.fi IntKind.u8, Lf.fi IntKind.u8, Lf.fi IntKind.u8, Lf.fi IntKind.u8]) d1.fst.snd)), (2, AV.bool false), (3, AV.slc d1.snd.fst.fst (List.map (mkV true Gram_tfs) d1.snd.fst.snd)), (4, AV.sref 1280 0 0 (List.map (mkV true Gram_tfs) d1.snd.snd.fst).length), (5, AV.int IntKind.i64 d1.snd.snd.snd.fst)], bs := [(1280, { v := 0, k := BK.row, fz := false, sz := 3, es := List.map (mkV true Gram_tfs) d1.snd.snd.fst })], df := [] }))) (some (Sum.inl { fr := [(0, AV.slc d1.fst.fst (List.map (mkV true [Lf.fi IntKind.u8, Lf.fi IntKind.u8, Lf.fi IntKind.u8, Lf.fi IntKind.u8]) d1.fst.snd)), (3, AV.slc d1.snd.fst.fst (List.map (mkV true Gram_tfs) d1.snd.fst.snd)), (4, AV.sref 1280 0 0 (List.map (mkV true Gram_tfs) d1.snd.snd.fst).length), (5, AV.int IntKind.i64 d1.snd.snd.snd.fst), (9, AV.int IntKind.i64 (IntKind.i64.wrap (d1.snd.snd.snd.snd.fst + 1)))], bs := [(1280, { v := 0, k := BK.row, fz := false, sz := 3, es := List.map (mkV true Gram_tfs) d1.snd.snd.fst })], df := [] })))
      (oK (n5L.dec { fr := [(0, AV.slc x (List.map (mkV true [Lf.fi IntKind.u8, Lf.fi IntKind.u8, Lf.fi IntKind.u8, Lf.fi IntKind.u8]) l)), (3, AV.slc fx (List.map (mkV true Gram_tfs) f)), (4, AV.sref 1280 0 0 (List.map (mkV true Gram_tfs) s).length), (5, AV.int IntKind.i64 i), (9, AV.int IntKind.i64 k), (10, AV.bool false), (11, AV.int IntKind.i64 0), (12, AV.int IntKind.i64 0)], bs := [(1280, { v := 0, k := BK.row, fz := false, sz := 3, es := List.map (mkV true Gram_tfs) s })], df := [] }) fun (d2 : (Bool × List (Int × Int × Int × Int)) × (Bool × List (Int × List UInt8 × Bool)) × List (Int × List UInt8 × Bool) × Int × Int × Bool × Int) =>
        bK (!nearQ d2.snd.fst.snd d2.snd.snd.snd.snd.fst d2.snd.snd.snd.snd.snd.snd d2.snd.snd.fst d2.snd.snd.snd.snd.snd.fst) (some (Sum.inr (Ex.ret, { fr := [(0, AV.slc d2.fst.fst (List.map (mkV true [Lf.fi IntKind.u8, Lf.fi IntKind.u8, Lf.fi IntKind.u8, Lf.fi IntKind.u8]) d2.fst.snd)), (2, AV.bool false), (3, AV.slc d2.snd.fst.fst (List.map (mkV true Gram_tfs) d2.snd.fst.snd)), (4, AV.sref 1280 0 0 (List.map (mkV true Gram_tfs) d2.snd.snd.fst).length), (5, AV.int IntKind.i64 d2.snd.snd.snd.fst)], bs := [(1280, { v := 0, k := BK.row, fz := false, sz := 3, es := List.map (mkV true Gram_tfs) d2.snd.snd.fst })], df := [] }))) (some (Sum.inl { fr := [(0, AV.slc d2.fst.fst (List.map (mkV true [Lf.fi IntKind.u8, Lf.fi IntKind.u8, Lf.fi IntKind.u8, Lf.fi IntKind.u8]) d2.fst.snd)), (3, AV.slc d2.snd.fst.fst (List.map (mkV true Gram_tfs) d2.snd.fst.snd)), (4, AV.sref 1280 0 0 (List.map (mkV true Gram_tfs) d2.snd.snd.fst).length), (5, AV.int IntKind.i64 d2.snd.snd.snd.fst), (9, AV.int IntKind.i64 (IntKind.i64.wrap (d2.snd.snd.snd.snd.fst + 1)))], bs := [(1280, { v := 0, k := BK.row, fz := false, sz := 3, es := List.map (mkV true Gram_tfs) d2.snd.snd.fst })], df := [] }))))
  (some (Sum.inr (Ex.exit 3, { fr := [(0, AV.slc x (List.map (mkV true [Lf.fi IntKind.u8, Lf.fi IntKind.u8, Lf.fi IntKind.u8, Lf.fi IntKind.u8]) l)), (3, AV.slc fx (List.map (mkV true Gram_tfs) f)), (4, AV.sref 1280 0 0 (List.map (mkV true Gram_tfs) s).length), (5, AV.int IntKind.i64 i)], bs := [(1280, { v := 0, k := BK.row, fz := false, sz := 3, es := List.map (mkV true Gram_tfs) s })], df := [] })))
theorem n3_s_w (x : Bool) (l : List Row4) (fx : Bool) (f : List Gram_T) (s : List Gram_T) (i : Int) (k : Int) : n3_s x l fx f s i k = n3_s_r x l fx f s i k := by kernel_rfl

def n3z (x : Bool) (l : List Row4) (fx : Bool) (i k : Int) : St := { fr := [(0, .slc x (l.map (mkV true Row4_fs))), (3, .slc fx []), (4, .slc true []), (5, .int .i64 i), (9, .int .i64 k)], bs := [], df := [] }
noncomputable def n3_z (x : Bool) (l : List Row4) (fx : Bool) (i k : Int) : Option (St ⊕ (Ex × St)) := stepK Try.prog cfg B1 n5LP 4 3 (n3z x l fx i 0)
noncomputable def n3_z_r (x : Bool) (l : List Row4) (fx : Bool) (i : Int) (k : Int) : Option (St ⊕ Ex × St) :=
  some (Sum.inr (Ex.exit 3, { fr := [(0, AV.slc x (List.map (mkV true [Lf.fi IntKind.u8, Lf.fi IntKind.u8, Lf.fi IntKind.u8, Lf.fi IntKind.u8]) l)), (3, AV.slc fx []), (4, AV.slc true []), (5, AV.int IntKind.i64 i)], bs := [], df := [] }))
theorem n3_z_w (x : Bool) (l : List Row4) (fx : Bool) (i : Int) (k : Int) : n3_z x l fx i k = n3_z_r x l fx i k := by kernel_rfl

def wantG (g : Gram_T) : Int := if g.2.2 = true then 1 else 0
def okN (f s : List Gram_T) : Prop := (f.length ≤ 40 ∧ s.length ≤ 1000 ∧ ∀ g ∈ f, g.2.1.length ≤ 1000) ∧ ∀ g ∈ f, nearN g (wantG g) s false = true
def n3e (x : Bool) (l : List Row4) (fx : Bool) (f : List Gram_T) (s : List Gram_T) (i : Int) : Ex × St := (.exit 3, { fr := [(0, .slc x (l.map (mkV true Row4_fs))), (3, .slc fx (f.map (mkV true Gram_tfs))), (4, .sref 1280 0 0 (s.map (mkV true Gram_tfs)).length), (5, .int .i64 i)], bs := sentB s, df := [] })
theorem n3_run (x : Bool) (l : List Row4) (fx : Bool) (f : List Gram_T) (s : List Gram_T) (i : Int) (h : okN f s) : ∀ (j k : Nat), k + j = f.length → ∀ (r : Nat), j < r → Runs' Try.prog cfg B1 4 3 r (n3h x l fx f s i k) (n3e x l fx f s i)
  | 0, k, hk, r + 1, hr => by
    have := h.1.1
    refine Runs'.done (lp := n5LP) n5LP_ok at43 ((n3_s_w x l fx f s i k).trans ?_)
    unfold n3_s_r
    rw [bK_neg (by rw [List.length_map]; exact decide_eq_false (by omega))]
    rfl
  | j + 1, k, hk, r + 1, hr => by
    obtain ⟨⟨a1, a2, a3⟩, a4⟩ := h
    have hk' : k < f.length := by omega
    have e3 : IntKind.i64.wrap ((k : Int) + 1) = ((k + 1 : Nat) : Int) := by rw [w64 (by omega) (by omega)]; omega
    have hg := a4 f[k] (List.getElem_mem hk')
    refine Runs'.step (lp := n5LP) n5LP_ok at43 ((n3_s_w x l fx f s i k).trans ?_) (n3_run x l fx f s i ⟨⟨a1, a2, a3⟩, a4⟩ j (k + 1) (by omega) r (by omega))
    unfold n3_s_r
    rw [bK_pos (by rw [List.length_map]; exact decide_eq_true (by omega))]
    refine oK_atq (Q := fun z => z = _) (fs := Gram_tfs) zG (by omega) (by rw [Int.toNat_natCast]; exact hk') ?_
    rw [Int.toNat_natCast, getD_at hk']
    refine bK_bq (Q := fun z => z = _) (fun c => ?_) (fun c => ?_)
    · refine oK_lpq (Q := fun z => z = _) n5Hd_inj ((x, l), (fx, f), s, i, (k : Int), false, (1 : Int)) ⟨⟨⟨by show (0 : Int) ≤ k; omega, by show (k : Int) < f.length; omega⟩, a3⟩, a2⟩ ?_
      dsimp only
      have q : nearQ f (k : Int) 1 s false = true := by
        show nearN (f.getD (k : Int).toNat zG) 1 s false = true
        rw [Int.toNat_natCast, getD_at hk']
        rw [show wantG f[k] = 1 from if_pos c] at hg
        exact hg
      rw [q, bK_neg (by rfl), e3]; rfl
    · refine oK_lpq (Q := fun z => z = _) n5Hd_inj ((x, l), (fx, f), s, i, (k : Int), false, (0 : Int)) ⟨⟨⟨by show (0 : Int) ≤ k; omega, by show (k : Int) < f.length; omega⟩, a3⟩, a2⟩ ?_
      dsimp only
      have q : nearQ f (k : Int) 0 s false = true := by
        show nearN (f.getD (k : Int).toNat zG) 0 s false = true
        rw [Int.toNat_natCast, getD_at hk']
        rw [show wantG f[k] = 0 from if_neg (by rw [c]; simp)] at hg
        exact hg
      rw [q, bK_neg (by rfl), e3]; rfl
def n3v : List Gram_T → AV
  | [] => .slc true []
  | a :: r => .sref 1280 0 0 ((a :: r).map (mkV true Gram_tfs)).length
def n3b : List Gram_T → List (Nat × Blk)
  | [] => []
  | a :: r => sentB (a :: r)
abbrev N3D : Type := (Bool × List Row4) × (Bool × List Gram_T) × List Gram_T × Int
def n3Hd (d : N3D) : St := { fr := [(0, .slc d.1.1 (d.1.2.map (mkV true Row4_fs))), (3, .slc d.2.1.1 (d.2.1.2.map (mkV true Gram_tfs))), (4, n3v d.2.2.1), (5, .int .i64 d.2.2.2), (9, .int .i64 0)], bs := n3b d.2.2.1, df := [] }
/-- None. -/
def noneQ (s : List Gram_T) : Bool := s.isEmpty
noncomputable def n3L : LP := LP.of n3Hd (fun d => (d.2.2.1 = [] → d.2.1.2 = []) ∧ okN d.2.1.2 d.2.2.1) fun d => .ite (noneQ d.2.2.1)
  (.leaf (.exit 3, { fr := [(0, .slc d.1.1 (d.1.2.map (mkV true Row4_fs))), (3, .slc d.2.1.1 (d.2.1.2.map (mkV true Gram_tfs))), (4, .slc true []), (5, .int .i64 d.2.2.2)], bs := [], df := [] }))
  (.leaf (.exit 3, { fr := [(0, .slc d.1.1 (d.1.2.map (mkV true Row4_fs))), (3, .slc d.2.1.1 (d.2.1.2.map (mkV true Gram_tfs))), (4, .sref 1280 0 0 (d.2.2.1.map (mkV true Gram_tfs)).length), (5, .int .i64 d.2.2.2)], bs := sentB d.2.2.1, df := [] }))
noncomputable def n3LP : LPs := LPs.add n5LP 4 3 n3L
theorem n3LP_ok : LPok Try.prog cfg B1 n3LP 4 := LPok.addH n5LP_ok one4 (by
  rintro ⟨⟨x, l⟩, ⟨fx, f⟩, s, i⟩ ⟨h1, h2⟩
  simp only at h1 h2
  cases s with
  | nil =>
    have hf := h1 rfl
    subst hf
    exact Runs'.done (lp := n5LP) (k := rounds - 1) n5LP_ok at43 (n3_z_w x l fx i 0)
  | cons a r =>
    exact n3_run x l fx f (a :: r) i h2 f.length 0 (by omega) rounds (by have := h2.1.1; simp only [rounds]; omega))
theorem n3Hd_inj (d d' : N3D) (h : n3Hd d = n3Hd d') : d = d' := by
  obtain ⟨⟨x, l⟩, ⟨fx, f⟩, s, i⟩ := d
  obtain ⟨⟨x', l'⟩, ⟨fx', f'⟩, s', i'⟩ := d'
  simp only [n3Hd, St.mk.injEq, List.cons.injEq, Prod.mk.injEq, AV.slc.injEq, AV.int.injEq, and_true, true_and] at h
  obtain ⟨⟨⟨h1, h2⟩, ⟨h3, h4⟩, _, h5⟩, h9⟩ := h
  have hs : s = s' := by
    cases s with
    | nil => cases s' with
      | nil => rfl
      | cons a r => simp [n3b, sentB] at h9
    | cons a r => cases s' with
      | nil => simp [n3b, sentB] at h9
      | cons a' r' =>
        simp only [n3b, sentB, List.cons.injEq, Prod.mk.injEq, Blk.mk.injEq, and_true, true_and] at h9
        exact map_inj (fs := Gram_tfs) rfl h9
  rw [h1, map_inj (fs := Row4_fs) rfl h2, h3, map_inj (fs := Gram_tfs) rfl h4, hs, h5]
theorem oK_lpe {R D : Type} {hd : D → St} {pre : D → Prop} {out : D → Alt (Ex × St)} (hinj : ∀ d d', hd d = hd d' → d = d') (d : D) (hp : pre d) {st : St} (e : st = hd d) {k : D → Option R} {Q : Option R → Prop} (hz : Q (k d)) : Q (oK ((LP.of hd pre out).dec st) k) := by
  rw [e]; exact oK_lpq hinj d hp hz
def nm0 (x : Bool) (l : List Row4) (fx : Bool) (i : Int) : St := { fr := [(0, .slc x (l.map (mkV true Row4_fs))), (3, .slc fx []), (4, .slc true []), (5, .int .i64 i)], bs := [], df := [] }
noncomputable def nm_0 (x : Bool) (l : List Row4) (fx : Bool) (i : Int) : Option (St ⊕ (Ex × St)) := stepK Try.prog cfg B1 n3LP 4 0 (nm0 x l fx i)
noncomputable def nm_0_r (x : Bool) (l : List Row4) (fx : Bool) (i : Int) : Option (St ⊕ Ex × St) :=
  bK (decide (i < (↑(List.map (mkV true [Lf.fi IntKind.u8, Lf.fi IntKind.u8, Lf.fi IntKind.u8, Lf.fi IntKind.u8]) l).length : Int)))
  (oK (elemAt true [Lf.fi IntKind.u8, Lf.fi IntKind.u8, Lf.fi IntKind.u8, Lf.fi IntKind.u8] (List.map (mkV true [Lf.fi IntKind.u8, Lf.fi IntKind.u8, Lf.fi IntKind.u8, Lf.fi IntKind.u8]) l) i) fun (d0 : Int × Int × Int × Int) =>
    oK (elemAt true [Lf.fi IntKind.u8, Lf.fi IntKind.u8, Lf.fi IntKind.u8, Lf.fi IntKind.u8] (List.map (mkV true [Lf.fi IntKind.u8, Lf.fi IntKind.u8, Lf.fi IntKind.u8, Lf.fi IntKind.u8]) l) i) fun (d1 : Int × Int × Int × Int) =>
      bK (decide (Int.tmod d1.fst 7 = 0))
        (oK (sendS.dec [AV.slc fx [], AV.agg [AV.int IntKind.i64 2, AV.str [UInt8.ofNat (IntKind.u8.wrap (97 + IntKind.u8.wrap (i.tmod 26))).toNat, UInt8.ofNat (IntKind.u8.wrap (97 + IntKind.u8.wrap (IntKind.i64.wrap (i.tdiv 26)))).toNat, UInt8.ofNat 122], AV.bool false]] []) fun (d2 : (Bool × List (Int × List UInt8 × Bool)) × Int × List UInt8 × Bool) =>
          bK (!decide ((↑(List.map (mkV true Gram_tfs) (sendF d2.fst.snd d2.snd)).length : Int) = 1)) (some (Sum.inr (Ex.ret, { fr := [(2, AV.bool false)], bs := [], df := [] })))
            (bK (decide (40 < (↑(List.map (mkV true Gram_tfs) (sendF d2.fst.snd d2.snd)).length : Int))) (some (Sum.inr (Ex.ret, { fr := [(2, AV.bool false)], bs := [], df := [] })))
              (oK (n3L.dec { fr := [(0, AV.slc x (List.map (mkV true [Lf.fi IntKind.u8, Lf.fi IntKind.u8, Lf.fi IntKind.u8, Lf.fi IntKind.u8]) l)), (3, AV.slc false (List.map (mkV true Gram_tfs) (sendF d2.fst.snd d2.snd))), (4, AV.sref 1280 0 0 1), (5, AV.int IntKind.i64 i), (9, AV.int IntKind.i64 0)], bs := [(1280, { v := 0, k := BK.row, fz := false, sz := 3, es := [AV.agg [AV.int IntKind.i64 2, AV.str [UInt8.ofNat (IntKind.u8.wrap (97 + IntKind.u8.wrap (i.tmod 26))).toNat, UInt8.ofNat (IntKind.u8.wrap (97 + IntKind.u8.wrap (IntKind.i64.wrap (i.tdiv 26)))).toNat, UInt8.ofNat 122], AV.bool false]] })], df := [] }) fun (d3 : (Bool × List (Int × Int × Int × Int)) × (Bool × List (Int × List UInt8 × Bool)) × List (Int × List UInt8 × Bool) × Int) =>
                bK (noneQ d3.snd.snd.fst) (some (Sum.inl { fr := [(0, AV.slc d3.fst.fst (List.map (mkV true [Lf.fi IntKind.u8, Lf.fi IntKind.u8, Lf.fi IntKind.u8, Lf.fi IntKind.u8]) d3.fst.snd)), (3, AV.slc d3.snd.fst.fst (List.map (mkV true Gram_tfs) d3.snd.fst.snd)), (4, AV.slc true []), (5, AV.int IntKind.i64 (IntKind.i64.wrap (d3.snd.snd.snd + 1)))], bs := [], df := [] })) (some (Sum.inl { fr := [(0, AV.slc d3.fst.fst (List.map (mkV true [Lf.fi IntKind.u8, Lf.fi IntKind.u8, Lf.fi IntKind.u8, Lf.fi IntKind.u8]) d3.fst.snd)), (3, AV.slc d3.snd.fst.fst (List.map (mkV true Gram_tfs) d3.snd.fst.snd)), (4, AV.sref 1280 0 0 (List.map (mkV true Gram_tfs) d3.snd.snd.fst).length), (5, AV.int IntKind.i64 (IntKind.i64.wrap (d3.snd.snd.snd + 1)))], bs := [(1280, { v := 0, k := BK.row, fz := false, sz := 3, es := List.map (mkV true Gram_tfs) d3.snd.snd.fst })], df := [] })))))
        (bK (decide (Int.tmod d1.fst 7 = 1))
          (oK (sendS.dec [AV.slc fx [], AV.agg [AV.int IntKind.i64 2, AV.str [UInt8.ofNat (IntKind.u8.wrap (97 + IntKind.u8.wrap (i.tmod 26))).toNat, UInt8.ofNat (IntKind.u8.wrap (97 + IntKind.u8.wrap (IntKind.i64.wrap (i.tdiv 26)))).toNat, UInt8.ofNat 122], AV.bool false]] []) fun (d4 : (Bool × List (Int × List UInt8 × Bool)) × Int × List UInt8 × Bool) =>
            bK (!decide ((↑(List.map (mkV true Gram_tfs) (sendF d4.fst.snd d4.snd)).length : Int) = 1)) (some (Sum.inr (Ex.ret, { fr := [(2, AV.bool false)], bs := [], df := [] })))
              (bK (decide (40 < (↑(List.map (mkV true Gram_tfs) (sendF d4.fst.snd d4.snd)).length : Int))) (some (Sum.inr (Ex.ret, { fr := [(2, AV.bool false)], bs := [], df := [] })))
                (oK (n3L.dec { fr := [(0, AV.slc x (List.map (mkV true [Lf.fi IntKind.u8, Lf.fi IntKind.u8, Lf.fi IntKind.u8, Lf.fi IntKind.u8]) l)), (3, AV.slc false (List.map (mkV true Gram_tfs) (sendF d4.fst.snd d4.snd))), (4, AV.sref 1280 0 0 1), (5, AV.int IntKind.i64 i), (9, AV.int IntKind.i64 0)], bs := [(1280, { v := 0, k := BK.row, fz := false, sz := 3, es := [AV.agg [AV.int IntKind.i64 2, AV.str [UInt8.ofNat (IntKind.u8.wrap (97 + IntKind.u8.wrap (i.tmod 26))).toNat, UInt8.ofNat (IntKind.u8.wrap (97 + IntKind.u8.wrap (IntKind.i64.wrap (i.tdiv 26)))).toNat, UInt8.ofNat 122], AV.bool false]] })], df := [] }) fun (d5 : (Bool × List (Int × Int × Int × Int)) × (Bool × List (Int × List UInt8 × Bool)) × List (Int × List UInt8 × Bool) × Int) =>
                  bK (noneQ d5.snd.snd.fst) (some (Sum.inl { fr := [(0, AV.slc d5.fst.fst (List.map (mkV true [Lf.fi IntKind.u8, Lf.fi IntKind.u8, Lf.fi IntKind.u8, Lf.fi IntKind.u8]) d5.fst.snd)), (3, AV.slc d5.snd.fst.fst (List.map (mkV true Gram_tfs) d5.snd.fst.snd)), (4, AV.slc true []), (5, AV.int IntKind.i64 (IntKind.i64.wrap (d5.snd.snd.snd + 1)))], bs := [], df := [] })) (some (Sum.inl { fr := [(0, AV.slc d5.fst.fst (List.map (mkV true [Lf.fi IntKind.u8, Lf.fi IntKind.u8, Lf.fi IntKind.u8, Lf.fi IntKind.u8]) d5.fst.snd)), (3, AV.slc d5.snd.fst.fst (List.map (mkV true Gram_tfs) d5.snd.fst.snd)), (4, AV.sref 1280 0 0 (List.map (mkV true Gram_tfs) d5.snd.snd.fst).length), (5, AV.int IntKind.i64 (IntKind.i64.wrap (d5.snd.snd.snd + 1)))], bs := [(1280, { v := 0, k := BK.row, fz := false, sz := 3, es := List.map (mkV true Gram_tfs) d5.snd.snd.fst })], df := [] })))))
          (bK (decide (Int.tmod d1.fst 7 = 2))
            (oK (sendS.dec [AV.slc fx [], AV.agg [AV.int IntKind.i64 2, AV.str [UInt8.ofNat (IntKind.u8.wrap (97 + IntKind.u8.wrap (i.tmod 26))).toNat, UInt8.ofNat (IntKind.u8.wrap (97 + IntKind.u8.wrap (IntKind.i64.wrap (i.tdiv 26)))).toNat, UInt8.ofNat 122], AV.bool false]] []) fun (d6 : (Bool × List (Int × List UInt8 × Bool)) × Int × List UInt8 × Bool) =>
              bK (!decide ((↑(List.map (mkV true Gram_tfs) (sendF d6.fst.snd d6.snd)).length : Int) = 1)) (some (Sum.inr (Ex.ret, { fr := [(2, AV.bool false)], bs := [], df := [] })))
                (bK (decide (40 < (↑(List.map (mkV true Gram_tfs) (sendF d6.fst.snd d6.snd)).length : Int))) (some (Sum.inr (Ex.ret, { fr := [(2, AV.bool false)], bs := [], df := [] })))
                  (oK (n3L.dec { fr := [(0, AV.slc x (List.map (mkV true [Lf.fi IntKind.u8, Lf.fi IntKind.u8, Lf.fi IntKind.u8, Lf.fi IntKind.u8]) l)), (3, AV.slc false (List.map (mkV true Gram_tfs) (sendF d6.fst.snd d6.snd))), (4, AV.sref 1280 0 0 1), (5, AV.int IntKind.i64 i), (9, AV.int IntKind.i64 0)], bs := [(1280, { v := 0, k := BK.row, fz := false, sz := 3, es := [AV.agg [AV.int IntKind.i64 2, AV.str [UInt8.ofNat (IntKind.u8.wrap (97 + IntKind.u8.wrap (i.tmod 26))).toNat, UInt8.ofNat (IntKind.u8.wrap (97 + IntKind.u8.wrap (IntKind.i64.wrap (i.tdiv 26)))).toNat, UInt8.ofNat 122], AV.bool false]] })], df := [] }) fun (d7 : (Bool × List (Int × Int × Int × Int)) × (Bool × List (Int × List UInt8 × Bool)) × List (Int × List UInt8 × Bool) × Int) =>
                    bK (noneQ d7.snd.snd.fst) (some (Sum.inl { fr := [(0, AV.slc d7.fst.fst (List.map (mkV true [Lf.fi IntKind.u8, Lf.fi IntKind.u8, Lf.fi IntKind.u8, Lf.fi IntKind.u8]) d7.fst.snd)), (3, AV.slc d7.snd.fst.fst (List.map (mkV true Gram_tfs) d7.snd.fst.snd)), (4, AV.slc true []), (5, AV.int IntKind.i64 (IntKind.i64.wrap (d7.snd.snd.snd + 1)))], bs := [], df := [] })) (some (Sum.inl { fr := [(0, AV.slc d7.fst.fst (List.map (mkV true [Lf.fi IntKind.u8, Lf.fi IntKind.u8, Lf.fi IntKind.u8, Lf.fi IntKind.u8]) d7.fst.snd)), (3, AV.slc d7.snd.fst.fst (List.map (mkV true Gram_tfs) d7.snd.fst.snd)), (4, AV.sref 1280 0 0 (List.map (mkV true Gram_tfs) d7.snd.snd.fst).length), (5, AV.int IntKind.i64 (IntKind.i64.wrap (d7.snd.snd.snd + 1)))], bs := [(1280, { v := 0, k := BK.row, fz := false, sz := 3, es := List.map (mkV true Gram_tfs) d7.snd.snd.fst })], df := [] })))))
            (bK (decide (Int.tmod d1.fst 7 = 3))
              (oK (comesS.dec [AV.slc fx [], AV.int IntKind.i64 ((IntKind.i64.wrap d0.snd.fst).tmod 24)] []) fun (d8 : (Bool × List (Int × List UInt8 × Bool)) × Int) =>
                bK (decide (40 < (↑(List.map (mkV true Gram_tfs) (cOut d8.fst.snd.isEmpty (comesF d8.fst.snd d8.snd)).fst.snd).length : Int))) (some (Sum.inr (Ex.ret, { fr := [(2, AV.bool false)], bs := [], df := [] })))
                  (oK (n3L.dec { fr := [(0, AV.slc x (List.map (mkV true [Lf.fi IntKind.u8, Lf.fi IntKind.u8, Lf.fi IntKind.u8, Lf.fi IntKind.u8]) l)), (3, AV.slc (cOut d8.fst.snd.isEmpty (comesF d8.fst.snd d8.snd)).fst.fst (List.map (mkV true Gram_tfs) (cOut d8.fst.snd.isEmpty (comesF d8.fst.snd d8.snd)).fst.snd)), (4, AV.slc true []), (5, AV.int IntKind.i64 i), (9, AV.int IntKind.i64 0)], bs := [], df := [] }) fun (d9 : (Bool × List (Int × Int × Int × Int)) × (Bool × List (Int × List UInt8 × Bool)) × List (Int × List UInt8 × Bool) × Int) => bK (noneQ d9.snd.snd.fst) (some (Sum.inl { fr := [(0, AV.slc d9.fst.fst (List.map (mkV true [Lf.fi IntKind.u8, Lf.fi IntKind.u8, Lf.fi IntKind.u8, Lf.fi IntKind.u8]) d9.fst.snd)), (3, AV.slc d9.snd.fst.fst (List.map (mkV true Gram_tfs) d9.snd.fst.snd)), (4, AV.slc true []), (5, AV.int IntKind.i64 (IntKind.i64.wrap (d9.snd.snd.snd + 1)))], bs := [], df := [] })) (some (Sum.inl { fr := [(0, AV.slc d9.fst.fst (List.map (mkV true [Lf.fi IntKind.u8, Lf.fi IntKind.u8, Lf.fi IntKind.u8, Lf.fi IntKind.u8]) d9.fst.snd)), (3, AV.slc d9.snd.fst.fst (List.map (mkV true Gram_tfs) d9.snd.fst.snd)), (4, AV.sref 1280 0 0 (List.map (mkV true Gram_tfs) d9.snd.snd.fst).length), (5, AV.int IntKind.i64 (IntKind.i64.wrap (d9.snd.snd.snd + 1)))], bs := [(1280, { v := 0, k := BK.row, fz := false, sz := 3, es := List.map (mkV true Gram_tfs) d9.snd.snd.fst })], df := [] }))))
              (bK (decide (Int.tmod d1.fst 7 = 4))
                (oK (comesS.dec [AV.slc fx [], AV.int IntKind.i64 ((IntKind.i64.wrap d0.snd.fst).tmod 24)] []) fun (d10 : (Bool × List (Int × List UInt8 × Bool)) × Int) =>
                  bK (decide (40 < (↑(List.map (mkV true Gram_tfs) (cOut d10.fst.snd.isEmpty (comesF d10.fst.snd d10.snd)).fst.snd).length : Int))) (some (Sum.inr (Ex.ret, { fr := [(2, AV.bool false)], bs := [], df := [] })))
                    (oK (n3L.dec { fr := [(0, AV.slc x (List.map (mkV true [Lf.fi IntKind.u8, Lf.fi IntKind.u8, Lf.fi IntKind.u8, Lf.fi IntKind.u8]) l)), (3, AV.slc (cOut d10.fst.snd.isEmpty (comesF d10.fst.snd d10.snd)).fst.fst (List.map (mkV true Gram_tfs) (cOut d10.fst.snd.isEmpty (comesF d10.fst.snd d10.snd)).fst.snd)), (4, AV.slc true []), (5, AV.int IntKind.i64 i), (9, AV.int IntKind.i64 0)], bs := [], df := [] }) fun (d11 : (Bool × List (Int × Int × Int × Int)) × (Bool × List (Int × List UInt8 × Bool)) × List (Int × List UInt8 × Bool) × Int) => bK (noneQ d11.snd.snd.fst) (some (Sum.inl { fr := [(0, AV.slc d11.fst.fst (List.map (mkV true [Lf.fi IntKind.u8, Lf.fi IntKind.u8, Lf.fi IntKind.u8, Lf.fi IntKind.u8]) d11.fst.snd)), (3, AV.slc d11.snd.fst.fst (List.map (mkV true Gram_tfs) d11.snd.fst.snd)), (4, AV.slc true []), (5, AV.int IntKind.i64 (IntKind.i64.wrap (d11.snd.snd.snd + 1)))], bs := [], df := [] })) (some (Sum.inl { fr := [(0, AV.slc d11.fst.fst (List.map (mkV true [Lf.fi IntKind.u8, Lf.fi IntKind.u8, Lf.fi IntKind.u8, Lf.fi IntKind.u8]) d11.fst.snd)), (3, AV.slc d11.snd.fst.fst (List.map (mkV true Gram_tfs) d11.snd.fst.snd)), (4, AV.sref 1280 0 0 (List.map (mkV true Gram_tfs) d11.snd.snd.fst).length), (5, AV.int IntKind.i64 (IntKind.i64.wrap (d11.snd.snd.snd + 1)))], bs := [(1280, { v := 0, k := BK.row, fz := false, sz := 3, es := List.map (mkV true Gram_tfs) d11.snd.snd.fst })], df := [] }))))
                (bK (decide (Int.tmod d1.fst 7 = 5))
                  (oK (twiceS.dec [AV.slc fx [], AV.int IntKind.i64 ((IntKind.i64.wrap d0.snd.fst).tmod 24)] []) fun (d12 : (Bool × List (Int × List UInt8 × Bool)) × Int) =>
                    bK (decide (40 < (↑(List.map (mkV true Gram_tfs) (twiceF d12.fst.snd d12.snd).fst).length : Int))) (some (Sum.inr (Ex.ret, { fr := [(2, AV.bool false)], bs := [], df := [] })))
                      (oK (n3L.dec { fr := [(0, AV.slc x (List.map (mkV true [Lf.fi IntKind.u8, Lf.fi IntKind.u8, Lf.fi IntKind.u8, Lf.fi IntKind.u8]) l)), (3, AV.slc d12.fst.snd.isEmpty (List.map (mkV true Gram_tfs) (twiceF d12.fst.snd d12.snd).fst)), (4, AV.slc true []), (5, AV.int IntKind.i64 i), (9, AV.int IntKind.i64 0)], bs := [], df := [] }) fun (d13 : (Bool × List (Int × Int × Int × Int)) × (Bool × List (Int × List UInt8 × Bool)) × List (Int × List UInt8 × Bool) × Int) => bK (noneQ d13.snd.snd.fst) (some (Sum.inl { fr := [(0, AV.slc d13.fst.fst (List.map (mkV true [Lf.fi IntKind.u8, Lf.fi IntKind.u8, Lf.fi IntKind.u8, Lf.fi IntKind.u8]) d13.fst.snd)), (3, AV.slc d13.snd.fst.fst (List.map (mkV true Gram_tfs) d13.snd.fst.snd)), (4, AV.slc true []), (5, AV.int IntKind.i64 (IntKind.i64.wrap (d13.snd.snd.snd + 1)))], bs := [], df := [] })) (some (Sum.inl { fr := [(0, AV.slc d13.fst.fst (List.map (mkV true [Lf.fi IntKind.u8, Lf.fi IntKind.u8, Lf.fi IntKind.u8, Lf.fi IntKind.u8]) d13.fst.snd)), (3, AV.slc d13.snd.fst.fst (List.map (mkV true Gram_tfs) d13.snd.fst.snd)), (4, AV.sref 1280 0 0 (List.map (mkV true Gram_tfs) d13.snd.snd.fst).length), (5, AV.int IntKind.i64 (IntKind.i64.wrap (d13.snd.snd.snd + 1)))], bs := [(1280, { v := 0, k := BK.row, fz := false, sz := 3, es := List.map (mkV true Gram_tfs) d13.snd.snd.fst })], df := [] }))))
                  (oK (elemAt true [Lf.fi IntKind.u8, Lf.fi IntKind.u8, Lf.fi IntKind.u8, Lf.fi IntKind.u8] (List.map (mkV true [Lf.fi IntKind.u8, Lf.fi IntKind.u8, Lf.fi IntKind.u8, Lf.fi IntKind.u8]) l) i) fun (d14 : Int × Int × Int × Int) =>
                    oK (elemAt true [Lf.fi IntKind.u8, Lf.fi IntKind.u8, Lf.fi IntKind.u8, Lf.fi IntKind.u8] (List.map (mkV true [Lf.fi IntKind.u8, Lf.fi IntKind.u8, Lf.fi IntKind.u8, Lf.fi IntKind.u8]) l) i) fun (d15 : Int × Int × Int × Int) =>
                      oK (turnedS.dec [AV.slc fx [], AV.int IntKind.i64 ((IntKind.i64.wrap d0.snd.fst).tmod 24), AV.int IntKind.i64 (IntKind.i64.wrap (IntKind.i64.wrap (IntKind.i64.wrap d14.snd.snd.fst * 256) + IntKind.i64.wrap d15.snd.snd.snd))] []) fun (d16 : (Bool × List (Int × List UInt8 × Bool)) × Int × Int) =>
                        bK (decide (40 < (↑(List.map (mkV true Gram_tfs) (turnedQ d16.fst.snd d16.snd.fst d16.snd.snd).fst).length : Int))) (some (Sum.inr (Ex.ret, { fr := [(2, AV.bool false)], bs := [], df := [] })))
                          (oK (n3L.dec { fr := [(0, AV.slc x (List.map (mkV true [Lf.fi IntKind.u8, Lf.fi IntKind.u8, Lf.fi IntKind.u8, Lf.fi IntKind.u8]) l)), (3, AV.slc d16.fst.snd.isEmpty (List.map (mkV true Gram_tfs) (turnedQ d16.fst.snd d16.snd.fst d16.snd.snd).fst)), (4, AV.slc true []), (5, AV.int IntKind.i64 i), (9, AV.int IntKind.i64 0)], bs := [], df := [] }) fun (d17 : (Bool × List (Int × Int × Int × Int)) × (Bool × List (Int × List UInt8 × Bool)) × List (Int × List UInt8 × Bool) × Int) => bK (noneQ d17.snd.snd.fst) (some (Sum.inl { fr := [(0, AV.slc d17.fst.fst (List.map (mkV true [Lf.fi IntKind.u8, Lf.fi IntKind.u8, Lf.fi IntKind.u8, Lf.fi IntKind.u8]) d17.fst.snd)), (3, AV.slc d17.snd.fst.fst (List.map (mkV true Gram_tfs) d17.snd.fst.snd)), (4, AV.slc true []), (5, AV.int IntKind.i64 (IntKind.i64.wrap (d17.snd.snd.snd + 1)))], bs := [], df := [] })) (some (Sum.inl { fr := [(0, AV.slc d17.fst.fst (List.map (mkV true [Lf.fi IntKind.u8, Lf.fi IntKind.u8, Lf.fi IntKind.u8, Lf.fi IntKind.u8]) d17.fst.snd)), (3, AV.slc d17.snd.fst.fst (List.map (mkV true Gram_tfs) d17.snd.fst.snd)), (4, AV.sref 1280 0 0 (List.map (mkV true Gram_tfs) d17.snd.snd.fst).length), (5, AV.int IntKind.i64 (IntKind.i64.wrap (d17.snd.snd.snd + 1)))], bs := [(1280, { v := 0, k := BK.row, fz := false, sz := 3, es := List.map (mkV true Gram_tfs) d17.snd.snd.fst })], df := [] }))))))))))
  (some (Sum.inr (Ex.exit 0, { fr := [], bs := [], df := [] })))
theorem nm_0_w (x : Bool) (l : List Row4) (fx : Bool) (i : Int) : nm_0 x l fx i = nm_0_r x l fx i := by kernel_rfl

def nm1 (x : Bool) (l : List Row4) (fx : Bool) (f : List Gram_T) (s : List Gram_T) (i : Int) : St := { fr := [(0, .slc x (l.map (mkV true Row4_fs))), (3, .slc fx (f.map (mkV true Gram_tfs))), (4, .sref 1280 0 0 (s.map (mkV true Gram_tfs)).length), (5, .int .i64 i)], bs := sentB s, df := [] }
noncomputable def nm_1 (x : Bool) (l : List Row4) (fx : Bool) (f : List Gram_T) (s : List Gram_T) (i : Int) : Option (St ⊕ (Ex × St)) := stepK Try.prog cfg B1 n3LP 4 0 (nm1 x l fx f s i)
noncomputable def nm_1_r (x : Bool) (l : List Row4) (fx : Bool) (f : List Gram_T) (s : List Gram_T) (i : Int) : Option (St ⊕ Ex × St) :=
  bK (decide (i < (↑(List.map (mkV true [Lf.fi IntKind.u8, Lf.fi IntKind.u8, Lf.fi IntKind.u8, Lf.fi IntKind.u8]) l).length : Int)))
  (oK (elemAt true [Lf.fi IntKind.u8, Lf.fi IntKind.u8, Lf.fi IntKind.u8, Lf.fi IntKind.u8] (List.map (mkV true [Lf.fi IntKind.u8, Lf.fi IntKind.u8, Lf.fi IntKind.u8, Lf.fi IntKind.u8]) l) i) fun (d0 : Int × Int × Int × Int) =>
    oK (elemAt true [Lf.fi IntKind.u8, Lf.fi IntKind.u8, Lf.fi IntKind.u8, Lf.fi IntKind.u8] (List.map (mkV true [Lf.fi IntKind.u8, Lf.fi IntKind.u8, Lf.fi IntKind.u8, Lf.fi IntKind.u8]) l) i) fun (d1 : Int × Int × Int × Int) =>
      bK (decide (Int.tmod d1.fst 7 = 0))
        (oK (sendS.dec [AV.slc fx (List.map (mkV true Gram_tfs) f), AV.agg [AV.int IntKind.i64 2, AV.str [UInt8.ofNat (IntKind.u8.wrap (97 + IntKind.u8.wrap (i.tmod 26))).toNat, UInt8.ofNat (IntKind.u8.wrap (97 + IntKind.u8.wrap (IntKind.i64.wrap (i.tdiv 26)))).toNat, UInt8.ofNat 122], AV.bool false]] []) fun (d2 : (Bool × List (Int × List UInt8 × Bool)) × Int × List UInt8 × Bool) =>
          bK (decide (0 + (List.map (mkV true Gram_tfs) s).length ≤ (List.map (mkV true Gram_tfs) s).length))
            (bK (decide (0 = 0 ∧ (List.map (mkV true Gram_tfs) s).length = (List.map (mkV true Gram_tfs) s).length) && bytesFit Try.prog 24 ((List.map (mkV true Gram_tfs) s).length + 1))
              (bK (!decide ((↑(List.map (mkV true Gram_tfs) (sendF d2.fst.snd d2.snd)).length : Int) = minI (IntKind.i64.wrap ((↑(List.map (mkV true Gram_tfs) f).length : Int) + 1)) 40)) (some (Sum.inr (Ex.ret, { fr := [(2, AV.bool false)], bs := [], df := [] })))
                (bK (decide (40 < (↑(List.map (mkV true Gram_tfs) (sendF d2.fst.snd d2.snd)).length : Int))) (some (Sum.inr (Ex.ret, { fr := [(2, AV.bool false)], bs := [], df := [] })))
                  (oK (n3L.dec { fr := [(0, AV.slc x (List.map (mkV true [Lf.fi IntKind.u8, Lf.fi IntKind.u8, Lf.fi IntKind.u8, Lf.fi IntKind.u8]) l)), (3, AV.slc false (List.map (mkV true Gram_tfs) (sendF d2.fst.snd d2.snd))), (4, AV.sref 1280 0 0 ((List.map (mkV true Gram_tfs) s).length + 1)), (5, AV.int IntKind.i64 i), (9, AV.int IntKind.i64 0)], bs := [(1280, { v := 0, k := BK.row, fz := false, sz := 3, es := List.take (List.map (mkV true Gram_tfs) s).length (List.map (mkV true Gram_tfs) s) ++ [AV.agg [AV.int IntKind.i64 2, AV.str [UInt8.ofNat (IntKind.u8.wrap (97 + IntKind.u8.wrap (i.tmod 26))).toNat, UInt8.ofNat (IntKind.u8.wrap (97 + IntKind.u8.wrap (IntKind.i64.wrap (i.tdiv 26)))).toNat, UInt8.ofNat 122], AV.bool false]] })], df := [] }) fun (d3 : (Bool × List (Int × Int × Int × Int)) × (Bool × List (Int × List UInt8 × Bool)) × List (Int × List UInt8 × Bool) × Int) =>
                    bK (noneQ d3.snd.snd.fst) (some (Sum.inl { fr := [(0, AV.slc d3.fst.fst (List.map (mkV true [Lf.fi IntKind.u8, Lf.fi IntKind.u8, Lf.fi IntKind.u8, Lf.fi IntKind.u8]) d3.fst.snd)), (3, AV.slc d3.snd.fst.fst (List.map (mkV true Gram_tfs) d3.snd.fst.snd)), (4, AV.slc true []), (5, AV.int IntKind.i64 (IntKind.i64.wrap (d3.snd.snd.snd + 1)))], bs := [], df := [] })) (some (Sum.inl { fr := [(0, AV.slc d3.fst.fst (List.map (mkV true [Lf.fi IntKind.u8, Lf.fi IntKind.u8, Lf.fi IntKind.u8, Lf.fi IntKind.u8]) d3.fst.snd)), (3, AV.slc d3.snd.fst.fst (List.map (mkV true Gram_tfs) d3.snd.fst.snd)), (4, AV.sref 1280 0 0 (List.map (mkV true Gram_tfs) d3.snd.snd.fst).length), (5, AV.int IntKind.i64 (IntKind.i64.wrap (d3.snd.snd.snd + 1)))], bs := [(1280, { v := 0, k := BK.row, fz := false, sz := 3, es := List.map (mkV true Gram_tfs) d3.snd.snd.fst })], df := [] })))))
              none)
            none)
        (bK (decide (Int.tmod d1.fst 7 = 1))
          (oK (sendS.dec [AV.slc fx (List.map (mkV true Gram_tfs) f), AV.agg [AV.int IntKind.i64 2, AV.str [UInt8.ofNat (IntKind.u8.wrap (97 + IntKind.u8.wrap (i.tmod 26))).toNat, UInt8.ofNat (IntKind.u8.wrap (97 + IntKind.u8.wrap (IntKind.i64.wrap (i.tdiv 26)))).toNat, UInt8.ofNat 122], AV.bool false]] []) fun (d4 : (Bool × List (Int × List UInt8 × Bool)) × Int × List UInt8 × Bool) =>
            bK (decide (0 + (List.map (mkV true Gram_tfs) s).length ≤ (List.map (mkV true Gram_tfs) s).length))
              (bK (decide (0 = 0 ∧ (List.map (mkV true Gram_tfs) s).length = (List.map (mkV true Gram_tfs) s).length) && bytesFit Try.prog 24 ((List.map (mkV true Gram_tfs) s).length + 1))
                (bK (!decide ((↑(List.map (mkV true Gram_tfs) (sendF d4.fst.snd d4.snd)).length : Int) = minI (IntKind.i64.wrap ((↑(List.map (mkV true Gram_tfs) f).length : Int) + 1)) 40)) (some (Sum.inr (Ex.ret, { fr := [(2, AV.bool false)], bs := [], df := [] })))
                  (bK (decide (40 < (↑(List.map (mkV true Gram_tfs) (sendF d4.fst.snd d4.snd)).length : Int))) (some (Sum.inr (Ex.ret, { fr := [(2, AV.bool false)], bs := [], df := [] })))
                    (oK (n3L.dec { fr := [(0, AV.slc x (List.map (mkV true [Lf.fi IntKind.u8, Lf.fi IntKind.u8, Lf.fi IntKind.u8, Lf.fi IntKind.u8]) l)), (3, AV.slc false (List.map (mkV true Gram_tfs) (sendF d4.fst.snd d4.snd))), (4, AV.sref 1280 0 0 ((List.map (mkV true Gram_tfs) s).length + 1)), (5, AV.int IntKind.i64 i), (9, AV.int IntKind.i64 0)], bs := [(1280, { v := 0, k := BK.row, fz := false, sz := 3, es := List.take (List.map (mkV true Gram_tfs) s).length (List.map (mkV true Gram_tfs) s) ++ [AV.agg [AV.int IntKind.i64 2, AV.str [UInt8.ofNat (IntKind.u8.wrap (97 + IntKind.u8.wrap (i.tmod 26))).toNat, UInt8.ofNat (IntKind.u8.wrap (97 + IntKind.u8.wrap (IntKind.i64.wrap (i.tdiv 26)))).toNat, UInt8.ofNat 122], AV.bool false]] })], df := [] }) fun (d5 : (Bool × List (Int × Int × Int × Int)) × (Bool × List (Int × List UInt8 × Bool)) × List (Int × List UInt8 × Bool) × Int) =>
                      bK (noneQ d5.snd.snd.fst) (some (Sum.inl { fr := [(0, AV.slc d5.fst.fst (List.map (mkV true [Lf.fi IntKind.u8, Lf.fi IntKind.u8, Lf.fi IntKind.u8, Lf.fi IntKind.u8]) d5.fst.snd)), (3, AV.slc d5.snd.fst.fst (List.map (mkV true Gram_tfs) d5.snd.fst.snd)), (4, AV.slc true []), (5, AV.int IntKind.i64 (IntKind.i64.wrap (d5.snd.snd.snd + 1)))], bs := [], df := [] })) (some (Sum.inl { fr := [(0, AV.slc d5.fst.fst (List.map (mkV true [Lf.fi IntKind.u8, Lf.fi IntKind.u8, Lf.fi IntKind.u8, Lf.fi IntKind.u8]) d5.fst.snd)), (3, AV.slc d5.snd.fst.fst (List.map (mkV true Gram_tfs) d5.snd.fst.snd)), (4, AV.sref 1280 0 0 (List.map (mkV true Gram_tfs) d5.snd.snd.fst).length), (5, AV.int IntKind.i64 (IntKind.i64.wrap (d5.snd.snd.snd + 1)))], bs := [(1280, { v := 0, k := BK.row, fz := false, sz := 3, es := List.map (mkV true Gram_tfs) d5.snd.snd.fst })], df := [] })))))
                none)
              none)
          (bK (decide (Int.tmod d1.fst 7 = 2))
            (oK (sendS.dec [AV.slc fx (List.map (mkV true Gram_tfs) f), AV.agg [AV.int IntKind.i64 2, AV.str [UInt8.ofNat (IntKind.u8.wrap (97 + IntKind.u8.wrap (i.tmod 26))).toNat, UInt8.ofNat (IntKind.u8.wrap (97 + IntKind.u8.wrap (IntKind.i64.wrap (i.tdiv 26)))).toNat, UInt8.ofNat 122], AV.bool false]] []) fun (d6 : (Bool × List (Int × List UInt8 × Bool)) × Int × List UInt8 × Bool) =>
              bK (decide (0 + (List.map (mkV true Gram_tfs) s).length ≤ (List.map (mkV true Gram_tfs) s).length))
                (bK (decide (0 = 0 ∧ (List.map (mkV true Gram_tfs) s).length = (List.map (mkV true Gram_tfs) s).length) && bytesFit Try.prog 24 ((List.map (mkV true Gram_tfs) s).length + 1))
                  (bK (!decide ((↑(List.map (mkV true Gram_tfs) (sendF d6.fst.snd d6.snd)).length : Int) = minI (IntKind.i64.wrap ((↑(List.map (mkV true Gram_tfs) f).length : Int) + 1)) 40)) (some (Sum.inr (Ex.ret, { fr := [(2, AV.bool false)], bs := [], df := [] })))
                    (bK (decide (40 < (↑(List.map (mkV true Gram_tfs) (sendF d6.fst.snd d6.snd)).length : Int))) (some (Sum.inr (Ex.ret, { fr := [(2, AV.bool false)], bs := [], df := [] })))
                      (oK (n3L.dec { fr := [(0, AV.slc x (List.map (mkV true [Lf.fi IntKind.u8, Lf.fi IntKind.u8, Lf.fi IntKind.u8, Lf.fi IntKind.u8]) l)), (3, AV.slc false (List.map (mkV true Gram_tfs) (sendF d6.fst.snd d6.snd))), (4, AV.sref 1280 0 0 ((List.map (mkV true Gram_tfs) s).length + 1)), (5, AV.int IntKind.i64 i), (9, AV.int IntKind.i64 0)], bs := [(1280, { v := 0, k := BK.row, fz := false, sz := 3, es := List.take (List.map (mkV true Gram_tfs) s).length (List.map (mkV true Gram_tfs) s) ++ [AV.agg [AV.int IntKind.i64 2, AV.str [UInt8.ofNat (IntKind.u8.wrap (97 + IntKind.u8.wrap (i.tmod 26))).toNat, UInt8.ofNat (IntKind.u8.wrap (97 + IntKind.u8.wrap (IntKind.i64.wrap (i.tdiv 26)))).toNat, UInt8.ofNat 122], AV.bool false]] })], df := [] }) fun (d7 : (Bool × List (Int × Int × Int × Int)) × (Bool × List (Int × List UInt8 × Bool)) × List (Int × List UInt8 × Bool) × Int) =>
                        bK (noneQ d7.snd.snd.fst) (some (Sum.inl { fr := [(0, AV.slc d7.fst.fst (List.map (mkV true [Lf.fi IntKind.u8, Lf.fi IntKind.u8, Lf.fi IntKind.u8, Lf.fi IntKind.u8]) d7.fst.snd)), (3, AV.slc d7.snd.fst.fst (List.map (mkV true Gram_tfs) d7.snd.fst.snd)), (4, AV.slc true []), (5, AV.int IntKind.i64 (IntKind.i64.wrap (d7.snd.snd.snd + 1)))], bs := [], df := [] })) (some (Sum.inl { fr := [(0, AV.slc d7.fst.fst (List.map (mkV true [Lf.fi IntKind.u8, Lf.fi IntKind.u8, Lf.fi IntKind.u8, Lf.fi IntKind.u8]) d7.fst.snd)), (3, AV.slc d7.snd.fst.fst (List.map (mkV true Gram_tfs) d7.snd.fst.snd)), (4, AV.sref 1280 0 0 (List.map (mkV true Gram_tfs) d7.snd.snd.fst).length), (5, AV.int IntKind.i64 (IntKind.i64.wrap (d7.snd.snd.snd + 1)))], bs := [(1280, { v := 0, k := BK.row, fz := false, sz := 3, es := List.map (mkV true Gram_tfs) d7.snd.snd.fst })], df := [] })))))
                  none)
                none)
            (bK (decide (Int.tmod d1.fst 7 = 3))
              (oK (comesS.dec [AV.slc fx (List.map (mkV true Gram_tfs) f), AV.int IntKind.i64 ((IntKind.i64.wrap d0.snd.fst).tmod 24)] []) fun (d8 : (Bool × List (Int × List UInt8 × Bool)) × Int) =>
                bK (decide (40 < (↑(List.map (mkV true Gram_tfs) (cOut d8.fst.snd.isEmpty (comesF d8.fst.snd d8.snd)).fst.snd).length : Int))) (some (Sum.inr (Ex.ret, { fr := [(2, AV.bool false)], bs := [], df := [] })))
                  (oK (n3L.dec { fr := [(0, AV.slc x (List.map (mkV true [Lf.fi IntKind.u8, Lf.fi IntKind.u8, Lf.fi IntKind.u8, Lf.fi IntKind.u8]) l)), (3, AV.slc (cOut d8.fst.snd.isEmpty (comesF d8.fst.snd d8.snd)).fst.fst (List.map (mkV true Gram_tfs) (cOut d8.fst.snd.isEmpty (comesF d8.fst.snd d8.snd)).fst.snd)), (4, AV.sref 1280 0 0 (List.map (mkV true Gram_tfs) s).length), (5, AV.int IntKind.i64 i), (9, AV.int IntKind.i64 0)], bs := [(1280, { v := 0, k := BK.row, fz := false, sz := 3, es := List.map (mkV true Gram_tfs) s })], df := [] }) fun (d9 : (Bool × List (Int × Int × Int × Int)) × (Bool × List (Int × List UInt8 × Bool)) × List (Int × List UInt8 × Bool) × Int) =>
                    bK (noneQ d9.snd.snd.fst) (some (Sum.inl { fr := [(0, AV.slc d9.fst.fst (List.map (mkV true [Lf.fi IntKind.u8, Lf.fi IntKind.u8, Lf.fi IntKind.u8, Lf.fi IntKind.u8]) d9.fst.snd)), (3, AV.slc d9.snd.fst.fst (List.map (mkV true Gram_tfs) d9.snd.fst.snd)), (4, AV.slc true []), (5, AV.int IntKind.i64 (IntKind.i64.wrap (d9.snd.snd.snd + 1)))], bs := [], df := [] })) (some (Sum.inl { fr := [(0, AV.slc d9.fst.fst (List.map (mkV true [Lf.fi IntKind.u8, Lf.fi IntKind.u8, Lf.fi IntKind.u8, Lf.fi IntKind.u8]) d9.fst.snd)), (3, AV.slc d9.snd.fst.fst (List.map (mkV true Gram_tfs) d9.snd.fst.snd)), (4, AV.sref 1280 0 0 (List.map (mkV true Gram_tfs) d9.snd.snd.fst).length), (5, AV.int IntKind.i64 (IntKind.i64.wrap (d9.snd.snd.snd + 1)))], bs := [(1280, { v := 0, k := BK.row, fz := false, sz := 3, es := List.map (mkV true Gram_tfs) d9.snd.snd.fst })], df := [] }))))
              (bK (decide (Int.tmod d1.fst 7 = 4))
                (oK (comesS.dec [AV.slc fx (List.map (mkV true Gram_tfs) f), AV.int IntKind.i64 ((IntKind.i64.wrap d0.snd.fst).tmod 24)] []) fun (d10 : (Bool × List (Int × List UInt8 × Bool)) × Int) =>
                  bK (decide (40 < (↑(List.map (mkV true Gram_tfs) (cOut d10.fst.snd.isEmpty (comesF d10.fst.snd d10.snd)).fst.snd).length : Int))) (some (Sum.inr (Ex.ret, { fr := [(2, AV.bool false)], bs := [], df := [] })))
                    (oK (n3L.dec { fr := [(0, AV.slc x (List.map (mkV true [Lf.fi IntKind.u8, Lf.fi IntKind.u8, Lf.fi IntKind.u8, Lf.fi IntKind.u8]) l)), (3, AV.slc (cOut d10.fst.snd.isEmpty (comesF d10.fst.snd d10.snd)).fst.fst (List.map (mkV true Gram_tfs) (cOut d10.fst.snd.isEmpty (comesF d10.fst.snd d10.snd)).fst.snd)), (4, AV.sref 1280 0 0 (List.map (mkV true Gram_tfs) s).length), (5, AV.int IntKind.i64 i), (9, AV.int IntKind.i64 0)], bs := [(1280, { v := 0, k := BK.row, fz := false, sz := 3, es := List.map (mkV true Gram_tfs) s })], df := [] }) fun (d11 : (Bool × List (Int × Int × Int × Int)) × (Bool × List (Int × List UInt8 × Bool)) × List (Int × List UInt8 × Bool) × Int) =>
                      bK (noneQ d11.snd.snd.fst) (some (Sum.inl { fr := [(0, AV.slc d11.fst.fst (List.map (mkV true [Lf.fi IntKind.u8, Lf.fi IntKind.u8, Lf.fi IntKind.u8, Lf.fi IntKind.u8]) d11.fst.snd)), (3, AV.slc d11.snd.fst.fst (List.map (mkV true Gram_tfs) d11.snd.fst.snd)), (4, AV.slc true []), (5, AV.int IntKind.i64 (IntKind.i64.wrap (d11.snd.snd.snd + 1)))], bs := [], df := [] })) (some (Sum.inl { fr := [(0, AV.slc d11.fst.fst (List.map (mkV true [Lf.fi IntKind.u8, Lf.fi IntKind.u8, Lf.fi IntKind.u8, Lf.fi IntKind.u8]) d11.fst.snd)), (3, AV.slc d11.snd.fst.fst (List.map (mkV true Gram_tfs) d11.snd.fst.snd)), (4, AV.sref 1280 0 0 (List.map (mkV true Gram_tfs) d11.snd.snd.fst).length), (5, AV.int IntKind.i64 (IntKind.i64.wrap (d11.snd.snd.snd + 1)))], bs := [(1280, { v := 0, k := BK.row, fz := false, sz := 3, es := List.map (mkV true Gram_tfs) d11.snd.snd.fst })], df := [] }))))
                (bK (decide (Int.tmod d1.fst 7 = 5))
                  (oK (twiceS.dec [AV.slc fx (List.map (mkV true Gram_tfs) f), AV.int IntKind.i64 ((IntKind.i64.wrap d0.snd.fst).tmod 24)] []) fun (d12 : (Bool × List (Int × List UInt8 × Bool)) × Int) =>
                    bK (decide (40 < (↑(List.map (mkV true Gram_tfs) (twiceF d12.fst.snd d12.snd).fst).length : Int))) (some (Sum.inr (Ex.ret, { fr := [(2, AV.bool false)], bs := [], df := [] })))
                      (oK (n3L.dec { fr := [(0, AV.slc x (List.map (mkV true [Lf.fi IntKind.u8, Lf.fi IntKind.u8, Lf.fi IntKind.u8, Lf.fi IntKind.u8]) l)), (3, AV.slc d12.fst.snd.isEmpty (List.map (mkV true Gram_tfs) (twiceF d12.fst.snd d12.snd).fst)), (4, AV.sref 1280 0 0 (List.map (mkV true Gram_tfs) s).length), (5, AV.int IntKind.i64 i), (9, AV.int IntKind.i64 0)], bs := [(1280, { v := 0, k := BK.row, fz := false, sz := 3, es := List.map (mkV true Gram_tfs) s })], df := [] }) fun (d13 : (Bool × List (Int × Int × Int × Int)) × (Bool × List (Int × List UInt8 × Bool)) × List (Int × List UInt8 × Bool) × Int) => bK (noneQ d13.snd.snd.fst) (some (Sum.inl { fr := [(0, AV.slc d13.fst.fst (List.map (mkV true [Lf.fi IntKind.u8, Lf.fi IntKind.u8, Lf.fi IntKind.u8, Lf.fi IntKind.u8]) d13.fst.snd)), (3, AV.slc d13.snd.fst.fst (List.map (mkV true Gram_tfs) d13.snd.fst.snd)), (4, AV.slc true []), (5, AV.int IntKind.i64 (IntKind.i64.wrap (d13.snd.snd.snd + 1)))], bs := [], df := [] })) (some (Sum.inl { fr := [(0, AV.slc d13.fst.fst (List.map (mkV true [Lf.fi IntKind.u8, Lf.fi IntKind.u8, Lf.fi IntKind.u8, Lf.fi IntKind.u8]) d13.fst.snd)), (3, AV.slc d13.snd.fst.fst (List.map (mkV true Gram_tfs) d13.snd.fst.snd)), (4, AV.sref 1280 0 0 (List.map (mkV true Gram_tfs) d13.snd.snd.fst).length), (5, AV.int IntKind.i64 (IntKind.i64.wrap (d13.snd.snd.snd + 1)))], bs := [(1280, { v := 0, k := BK.row, fz := false, sz := 3, es := List.map (mkV true Gram_tfs) d13.snd.snd.fst })], df := [] }))))
                  (oK (elemAt true [Lf.fi IntKind.u8, Lf.fi IntKind.u8, Lf.fi IntKind.u8, Lf.fi IntKind.u8] (List.map (mkV true [Lf.fi IntKind.u8, Lf.fi IntKind.u8, Lf.fi IntKind.u8, Lf.fi IntKind.u8]) l) i) fun (d14 : Int × Int × Int × Int) =>
                    oK (elemAt true [Lf.fi IntKind.u8, Lf.fi IntKind.u8, Lf.fi IntKind.u8, Lf.fi IntKind.u8] (List.map (mkV true [Lf.fi IntKind.u8, Lf.fi IntKind.u8, Lf.fi IntKind.u8, Lf.fi IntKind.u8]) l) i) fun (d15 : Int × Int × Int × Int) =>
                      oK (turnedS.dec [AV.slc fx (List.map (mkV true Gram_tfs) f), AV.int IntKind.i64 ((IntKind.i64.wrap d0.snd.fst).tmod 24), AV.int IntKind.i64 (IntKind.i64.wrap (IntKind.i64.wrap (IntKind.i64.wrap d14.snd.snd.fst * 256) + IntKind.i64.wrap d15.snd.snd.snd))] []) fun (d16 : (Bool × List (Int × List UInt8 × Bool)) × Int × Int) =>
                        bK (decide (40 < (↑(List.map (mkV true Gram_tfs) (turnedQ d16.fst.snd d16.snd.fst d16.snd.snd).fst).length : Int))) (some (Sum.inr (Ex.ret, { fr := [(2, AV.bool false)], bs := [], df := [] })))
                          (oK (n3L.dec { fr := [(0, AV.slc x (List.map (mkV true [Lf.fi IntKind.u8, Lf.fi IntKind.u8, Lf.fi IntKind.u8, Lf.fi IntKind.u8]) l)), (3, AV.slc d16.fst.snd.isEmpty (List.map (mkV true Gram_tfs) (turnedQ d16.fst.snd d16.snd.fst d16.snd.snd).fst)), (4, AV.sref 1280 0 0 (List.map (mkV true Gram_tfs) s).length), (5, AV.int IntKind.i64 i), (9, AV.int IntKind.i64 0)], bs := [(1280, { v := 0, k := BK.row, fz := false, sz := 3, es := List.map (mkV true Gram_tfs) s })], df := [] }) fun (d17 : (Bool × List (Int × Int × Int × Int)) × (Bool × List (Int × List UInt8 × Bool)) × List (Int × List UInt8 × Bool) × Int) =>
                            bK (noneQ d17.snd.snd.fst) (some (Sum.inl { fr := [(0, AV.slc d17.fst.fst (List.map (mkV true [Lf.fi IntKind.u8, Lf.fi IntKind.u8, Lf.fi IntKind.u8, Lf.fi IntKind.u8]) d17.fst.snd)), (3, AV.slc d17.snd.fst.fst (List.map (mkV true Gram_tfs) d17.snd.fst.snd)), (4, AV.slc true []), (5, AV.int IntKind.i64 (IntKind.i64.wrap (d17.snd.snd.snd + 1)))], bs := [], df := [] })) (some (Sum.inl { fr := [(0, AV.slc d17.fst.fst (List.map (mkV true [Lf.fi IntKind.u8, Lf.fi IntKind.u8, Lf.fi IntKind.u8, Lf.fi IntKind.u8]) d17.fst.snd)), (3, AV.slc d17.snd.fst.fst (List.map (mkV true Gram_tfs) d17.snd.fst.snd)), (4, AV.sref 1280 0 0 (List.map (mkV true Gram_tfs) d17.snd.snd.fst).length), (5, AV.int IntKind.i64 (IntKind.i64.wrap (d17.snd.snd.snd + 1)))], bs := [(1280, { v := 0, k := BK.row, fz := false, sz := 3, es := List.map (mkV true Gram_tfs) d17.snd.snd.fst })], df := [] }))))))))))
  (some (Sum.inr (Ex.exit 0, { fr := [], bs := [], df := [] })))
theorem nm_1_w (x : Bool) (l : List Row4) (fx : Bool) (f : List Gram_T) (s : List Gram_T) (i : Int) : nm_1 x l fx f s i = nm_1_r x l fx f s i := by kernel_rfl

end Go.Proofs.Ytacpbgkljdgmlaa
