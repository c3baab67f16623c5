/- A part of the proof: contracts of functions. -/
import Derived.Test.YtkanmigbbpppnaaN4
import Derived.Test.YtkanmigbbpppnaaAbAny

set_option linter.unusedVariables false
set_option linter.unusedSimpArgs false
set_option maxRecDepth 100000
namespace Go.Proofs.Ytkanmigbbpppnaa
open Go Go.Ab
def alh (lx : Bool) (l : List Row4) (w : Wait_T) (A B : Desk_T) (now i : Int) : St := { fr := [(1, .slc lx (l.map (mkV true Row4_fs))), (5, .ptr 80 0 0 0), (7, .ptr 112 0 0 0), (8, .int .i64 now), (9, .ptr 144 0 0 0), (10, .int .i64 i)], bs := [(80, boxB (Tu.mk Wait_tfs w)), (112, boxB (Tu.mk Desk_tfs A)), (144, boxB (Tu.mk Desk_tfs B))], df := [] }
abbrev P2b_fs : List Lf := [.fi .i64, .fi .i64]
def cqh (lx : Bool) (l : List Row4) (w : Wait_T) (A B : Desk_T) (now i : Int) (X Y : Desk_T) (ax : Bool) (a : List P2_T) (yb : Bool) (b : List P2_T) (k : Int) : St := { fr := [(1, .slc lx (l.map (mkV true Row4_fs))), (5, .ptr 80 0 0 0), (7, .ptr 112 0 0 0), (8, .int .i64 now), (9, .ptr 144 0 0 0), (10, .int .i64 i), (14, .ptr 224 0 0 0), (16, .slc ax (a.map (mkV true P2b_fs))), (17, .ptr 272 0 0 0), (19, .slc yb (b.map (mkV true P2b_fs))), (20, .int .i64 k)], bs := [(80, boxB (Tu.mk Wait_tfs w)), (112, boxB (Tu.mk Desk_tfs A)), (144, boxB (Tu.mk Desk_tfs B)), (224, boxB (Tu.mk Desk_tfs X)), (272, boxB (Tu.mk Desk_tfs Y))], df := [] }
noncomputable def cq_s (lx : Bool) (l : List Row4) (w : Wait_T) (A B : Desk_T) (now i : Int) (X Y : Desk_T) (ax : Bool) (a : List P2_T) (yb : Bool) (b : List P2_T) (k : Int) : Option (St ⊕ (Ex × St)) := stepK Try.prog cfg Al6 LP0 3 3 (cqh lx l w A B now i X Y ax a yb b k)
noncomputable def cq_s_r (lx : Bool) (l : List Row4) (w : Wait_T) (A : Desk_T) (B : Desk_T) (now : Int) (i : Int) (X : Desk_T) (Y : Desk_T) (ax : Bool) (a : List P2_T) (yb : Bool) (b : List P2_T) (k : Int) : Option (St ⊕ Ex × St) :=
 bK (decide (k < (↑(m2 b).length : Int)))
 (oK (elemAt true [Lf.fi .i64, Lf.fi .i64] (m2 a) k) fun (d0 : Int × Int) =>
 oK (elemAt true [Lf.fi .i64, Lf.fi .i64] (m2 b) k) fun (d1 : Int × Int) =>
 bK (!(decide (d0.1 = d1.1) && (decide (d0.2 = d1.2) && true))) (some (.inr (.ret, (sf [(1, .slc lx (List.map (mkV true Row4_fs) l)), (5, pt 80), (6, .bool false), (7, pt 112), (8, i6 now), (9, pt 144), (10, i6 i), (14, pt 224), (17, pt 272)] [(80, (bx [i6 w.1, i6 w.2.1, i6 w.2.2.1, i6 w.2.2.2])), (112, (bx [sl A.1.1 A.1.2, sl A.2.1 A.2.2])), (144, (bx [sl B.1.1 B.1.2, sl B.2.1 B.2.2])), (224, (bx [sl X.1.1 X.1.2, sl X.2.1 X.2.2])), (272, (bx [sl Y.1.1 Y.1.2, sl Y.2.1 Y.2.2]))]))))
 (some (.inl (sf [(1, .slc lx (List.map (mkV true Row4_fs) l)), (5, pt 80), (7, pt 112), (8, i6 now), (9, pt 144), (10, i6 i), (14, pt 224), (16, .slc ax (m2 a)), (17, pt 272), (19, .slc yb (m2 b)), (20, i6 (IntKind.i64.wrap (k + 1)))] [(80, (bx [i6 w.1, i6 w.2.1, i6 w.2.2.1, i6 w.2.2.2])), (112, (bx [sl A.1.1 A.1.2, sl A.2.1 A.2.2])), (144, (bx [sl B.1.1 B.1.2, sl B.2.1 B.2.2])), (224, (bx [sl X.1.1 X.1.2, sl X.2.1 X.2.2])), (272, (bx [sl Y.1.1 Y.1.2, sl Y.2.1 Y.2.2]))]))))
 (some (.inr (.exit 3, (sf [(1, .slc lx (List.map (mkV true Row4_fs) l)), (5, pt 80), (7, pt 112), (8, i6 now), (9, pt 144), (10, i6 i), (14, pt 224), (17, pt 272)] [(80, (bx [i6 w.1, i6 w.2.1, i6 w.2.2.1, i6 w.2.2.2])), (112, (bx [sl A.1.1 A.1.2, sl A.2.1 A.2.2])), (144, (bx [sl B.1.1 B.1.2, sl B.2.1 B.2.2])), (224, (bx [sl X.1.1 X.1.2, sl X.2.1 X.2.2])), (272, (bx [sl Y.1.1 Y.1.2, sl Y.2.1 Y.2.2]))]))))
theorem cq_s_w (lx : Bool) (l : List Row4) (w : Wait_T) (A : Desk_T) (B : Desk_T) (now : Int) (i : Int) (X : Desk_T) (Y : Desk_T) (ax : Bool) (a : List P2_T) (yb : Bool) (b : List P2_T) (k : Int) : cq_s lx l w A B now i X Y ax a yb b k = cq_s_r lx l w A B now i X Y ax a yb b k := by kernel_rfl

def cqx (lx : Bool) (l : List Row4) (w : Wait_T) (A B : Desk_T) (now i : Int) (X Y : Desk_T) : St := { fr := [(1, .slc lx (l.map (mkV true Row4_fs))), (5, .ptr 80 0 0 0), (7, .ptr 112 0 0 0), (8, .int .i64 now), (9, .ptr 144 0 0 0), (10, .int .i64 i), (14, .ptr 224 0 0 0), (17, .ptr 272 0 0 0)], bs := [(80, boxB (Tu.mk Wait_tfs w)), (112, boxB (Tu.mk Desk_tfs A)), (144, boxB (Tu.mk Desk_tfs B)), (224, boxB (Tu.mk Desk_tfs X)), (272, boxB (Tu.mk Desk_tfs Y))], df := [] }
theorem gl3 : (loopsOf 0 (codeOf Try.prog 3)).map (·.1) = [0, 3] := by kernel_rfl
theorem go3 : OneLoops Try.prog 3 := by unfold OneLoops; rw [gl3]; decide
theorem ga30 : At 0 (codeOf Try.prog 3) 0 (.loop (bodyAt Try.prog 3 0)) := at_body go3 (by rw [gl3]; decide)
theorem ga33 : At 0 (codeOf Try.prog 3) 3 (.loop (bodyAt Try.prog 3 3)) := at_body go3 (by rw [gl3]; decide)
theorem cq_run (lx : Bool) (l : List Row4) (w : Wait_T) (A B : Desk_T) (now i : Int) (X Y : Desk_T) (ax : Bool) (a : List P2_T) (yb : Bool) (hb : a.length ≤ 100000) : ∀ (j n : Nat), n + j = a.length → ∀ (fu : Nat), j < fu → Runs' Try.prog cfg Al6 3 3 fu (cqh lx l w A B now i X Y ax a yb a n) (.exit 3, cqx lx l w A B now i X Y)
 | 0, n, hn, fu + 1, hf => by
  refine Runs'.done (lp := LP0) LPok.none ga33 ((cq_s_w lx l w A B now i X Y ax a yb a n).trans ?_)
  unfold cq_s_r
  exact bK_neg (by simp; omega)
 | j + 1, n, hn, fu + 1, hf => by
  have hn' : n < a.length := by omega
  have e1 : IntKind.i64.wrap ((n : Int) + 1) = ((n + 1 : Nat) : Int) := by rw [w64 (by omega) (by omega)]; omega
  have e2 : a.getD (n : Int).toNat (0, 0) = a[n] := by rw [Int.toNat_natCast, getD_at hn']
  refine Runs'.step (lp := LP0) LPok.none ga33 ((cq_s_w lx l w A B now i X Y ax a yb a n).trans ?_) (cq_run lx l w A B now i X Y ax a yb hb j (n + 1) (by omega) fu (by omega))
  unfold cq_s_r
  refine bK_tq (Q := (· = _)) (by simp; omega) ?_
  refine oK_atq (Q := (· = _)) (fs := P2b_fs) (0, 0) (by omega) (by simpa using hn') ?_
  refine oK_atq (Q := (· = _)) (fs := P2b_fs) (0, 0) (by omega) (by simpa using hn') ?_
  rw [e1]
  exact bK_fq (Q := (· = _)) (by simp) rfl
abbrev CqD : Type := ((Bool × List Row4) × Wait_T × (Desk_T × Desk_T) × Int × Int) × (Desk_T × Desk_T) × (Bool × List P2_T) × (Bool × List P2_T)
def cqHd (d : CqD) : St := cqh d.1.1.1 d.1.1.2 d.1.2.1 d.1.2.2.1.1 d.1.2.2.1.2 d.1.2.2.2.1 d.1.2.2.2.2 d.2.1.1 d.2.1.2 d.2.2.1.1 d.2.2.1.2 d.2.2.2.1 d.2.2.2.2 0
theorem cqHd_inj (d d' : CqD) (h : cqHd d = cqHd d') : d = d' := by
 obtain ⟨⟨⟨lx, l⟩, w, ⟨A, B⟩, now, i⟩, ⟨X, Y⟩, ⟨ax, a⟩, yb, b⟩ := d
 obtain ⟨⟨⟨lx', l'⟩, w', ⟨A', B'⟩, now', i'⟩, ⟨X', Y'⟩, ⟨ax', a'⟩, yb', b'⟩ := d'
 simp only [cqHd, cqh, boxB, St.mk.injEq, List.cons.injEq, Prod.mk.injEq, AV.slc.injEq, AV.int.injEq, Blk.mk.injEq, and_true, true_and] at h
 obtain ⟨⟨⟨h1, h2⟩, h3, h4, ⟨h5, h6⟩, h7, h8⟩, h9, h10, h11, h12, h13⟩ := h
 rw [h1, map_inj (fs := Row4_fs) rfl h2, h3, h4, h5, map_inj (fs := P2b_fs) rfl h6, h7, map_inj (fs := P2b_fs) rfl h8, mk_inj (fs := Wait_tfs) rfl h9, mk_inj (fs := Desk_tfs) rfl h10, mk_inj (fs := Desk_tfs) rfl h11, mk_inj (fs := Desk_tfs) rfl h12, mk_inj (fs := Desk_tfs) rfl h13]
noncomputable def cqL : LP := LP.of cqHd (fun d => d.2.2.1.2 = d.2.2.2.2 ∧ d.2.2.1.2.length ≤ 100000) fun d => .leaf (.exit 3, cqx d.1.1.1 d.1.1.2 d.1.2.1 d.1.2.2.1.1 d.1.2.2.1.2 d.1.2.2.2.1 d.1.2.2.2.2 d.2.1.1 d.2.1.2)
noncomputable def cqP : LPs := LPs.add LP0 3 3 cqL
theorem cqP_ok : LPok Try.prog cfg Al6 cqP 3 := LPok.addH LPok.none go3 (by
 rintro ⟨⟨⟨lx, l⟩, w, ⟨A, B⟩, now, i⟩, ⟨X, Y⟩, ⟨ax, a⟩, yb, b⟩ ⟨h1, h2⟩
 dsimp only at h1
 subst h1
 exact cq_run lx l w A B now i X Y ax a yb h2 a.length 0 (by omega) rounds (by have h2 : a.length ≤ 100000 := h2; simp only [rounds]; omega))
noncomputable def al_s (lx : Bool) (l : List Row4) (w : Wait_T) (A B : Desk_T) (now i : Int) : Option (St ⊕ (Ex × St)) := stepK Try.prog cfg Al6 cqP 3 0 (alh lx l w A B now i)

end Go.Proofs.Ytkanmigbbpppnaa
