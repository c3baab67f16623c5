/- A part of the proof: contracts of functions. -/
import Derived.Test.YtkanmigbbpppnaaO4
import Derived.Test.YtkanmigbbpppnaaAbAny

set_option linter.unusedVariables false
set_option linter.unusedSimpArgs false
set_option maxRecDepth 100000
namespace Go.Proofs.Ytkanmigbbpppnaa
open Go Go.Ab
theorem wf8 {l : List Int} (h : ∀ d ∈ l, Tu.wf [.fi .u8] d) : ∀ v ∈ l, 0 ≤ v ∧ v < 256 := fun v hv => by
 have : (0 : Int) ≤ v ∧ v ≤ 255 := h v hv
 omega
theorem tm_lt (c : Int) (n : Int) (h : 0 ≤ c ∧ c ≤ 255) (hn : 1 ≤ n ∧ n ≤ 255) : IntKind.i64.wrap (1 + IntKind.i64.wrap (c.tmod n)) = 1 + c.tmod n ∧ 0 ≤ c.tmod n ∧ c.tmod n < n := by
 have h1 := Int.tmod_nonneg n h.1
 have h2 := Int.tmod_lt_of_pos c (show 0 < n by omega)
 rw [w64 (n := c.tmod n) (by omega) (by omega), w64 (by omega) (by omega)]
 exact ⟨rfl, h1, h2⟩
noncomputable def al_t_r (lx : Bool) (l : List Row4) (w : Wait_T) (A B : Desk_T) (now i : Int) (d0 d1 : Row4) (v : Wait_T) : Option (St ⊕ Ex × St) :=
 oK (elemAt true Row4_fs (List.map (mkV true Row4_fs) l) i) fun (e0 : Int × Int × Int × Int) => bK (decide (Int.tmod e0.1 5 = 0))
 (oK (dgiveS.dec [AV.agg [sl A.1.1 A.1.2, sl A.2.1 A.2.2], i6 (IntKind.i64.wrap (1 + IntKind.i64.wrap (Int.tmod d0.2.1 3))), i6 (IntKind.i64.wrap (1 + IntKind.i64.wrap (Int.tmod d1.2.2.1 3)))] []) fun (e1 : LW × LW × Int × Int) => oK (girefS.dec [AV.agg [sl B.1.1 B.1.2, sl B.2.1 B.2.2], i6 (IntKind.i64.wrap (1 + IntKind.i64.wrap (Int.tmod d0.2.1 3))), i6 (IntKind.i64.wrap (1 + IntKind.i64.wrap (Int.tmod d1.2.2.1 3)))] []) fun (e2 : LW × LW × Int × Int) => oK (sdkS.dec [AV.agg [sl e1.1.2.isEmpty (dropQ e1.1.2 e1.2.2.1 e1.2.2.2), sl e1.2.1.2.isEmpty e1.2.1.2], AV.agg [.slc (dropQ e2.1.2 e2.2.2.1 e2.2.2.2).isEmpty (mW (dropQ e2.1.2 e2.2.2.1 e2.2.2.2)), sl e2.2.1.1 e2.2.1.2]] []) fun (e3 : LW × LW × LW × Bool × List Wait_T) => bK (!decide (e3.1.2 = e3.2.2.1.2 ∧ e3.2.1.2 = e3.2.2.2.2))
 (some (.inr (.ret, (sf [(6, .bool false)] []))))
 (some (.inl (sf [(1, .slc lx (List.map (mkV true Row4_fs) l)), (5, pt 80), (7, pt 112), (8, i6 now), (9, pt 144), (10, i6 (IntKind.i64.wrap (i + 1)))] [(80, (bx [i6 w.1, i6 w.2.1, i6 w.2.2.1, i6 w.2.2.2])), (112, (bx [sl e1.1.2.isEmpty (dropQ e1.1.2 e1.2.2.1 e1.2.2.2), sl e1.2.1.2.isEmpty e1.2.1.2])), (144, (bx [.slc (dropQ e2.1.2 e2.2.2.1 e2.2.2.2).isEmpty (mW (dropQ e2.1.2 e2.2.2.1 e2.2.2.2)), sl e2.2.1.1 e2.2.1.2]))]))))
 (bK (decide (Int.tmod e0.1 5 = 1))
 (oK (elemAt true Row4_fs (List.map (mkV true Row4_fs) l) i) fun (e4 : Int × Int × Int × Int) => oK (drunS.dec [AV.agg [sl A.1.1 A.1.2, sl A.2.1 A.2.2], i6 (IntKind.i64.wrap (now + IntKind.i64.wrap (Int.tmod e4.2.2.2 70)))] []) fun (e5 : LW × LW × Int) => oK (rrunS.dec [AV.agg [sl B.1.1 B.1.2, sl B.2.1 B.2.2], i6 (IntKind.i64.wrap (now + IntKind.i64.wrap (Int.tmod e4.2.2.2 70)))] []) fun (e6 : LW × LW × Int) => oK (swSw.dec [.slc (runQ (e5.1, e5.2.1) e5.2.2).2.2.1.1 (mW (runQ (e5.1, e5.2.1) e5.2.2).2.2.1.2), .slc (ruRQ (e6.1, e6.2.1) e6.2.2).2.2.1.1 (mW (ruRQ (e6.1, e6.2.1) e6.2.2).2.2.1.2)] []) fun (e7 : LW × Bool × List Wait_T) => bK (!swQw e7.1.2 e7.2.2)
 (some (.inr (.ret, (sf [(6, .bool false)] []))))
 (bK (!decide ((↑(m2 (runQ (e5.1, e5.2.1) e5.2.2).2.2.2.2).length : Int) = (↑(m2 (ruRQ (e6.1, e6.2.1) e6.2.2).2.2.2.2).length : Int)))
 (some (.inr (.ret, (sf [(6, .bool false)] []))))
 (oK (cqL.dec (sf [(1, .slc lx (List.map (mkV true Row4_fs) l)), (5, pt 80), (7, pt 112), (8, i6 (IntKind.i64.wrap (now + IntKind.i64.wrap (Int.tmod e4.2.2.2 70)))), (9, pt 144), (10, i6 i), (14, pt 224), (16, .slc (runQ (e5.1, e5.2.1) e5.2.2).2.2.2.1 (m2 (runQ (e5.1, e5.2.1) e5.2.2).2.2.2.2)), (17, pt 272), (19, .slc (ruRQ (e6.1, e6.2.1) e6.2.2).2.2.2.1 (m2 (ruRQ (e6.1, e6.2.1) e6.2.2).2.2.2.2)), (20, i6 0)] [(80, (bx [i6 w.1, i6 w.2.1, i6 w.2.2.1, i6 w.2.2.2])), (112, (bx [sl A.1.1 A.1.2, sl A.2.1 A.2.2])), (144, (bx [sl B.1.1 B.1.2, sl B.2.1 B.2.2])), (224, (bx [.slc (runQ (e5.1, e5.2.1) e5.2.2).1.1 (mW (runQ (e5.1, e5.2.1) e5.2.2).1.2), .slc (runQ (e5.1, e5.2.1) e5.2.2).2.1.1 (mW (runQ (e5.1, e5.2.1) e5.2.2).2.1.2)])), (272, (bx [.slc (ruRQ (e6.1, e6.2.1) e6.2.2).1.1 (mW (ruRQ (e6.1, e6.2.1) e6.2.2).1.2), .slc (ruRQ (e6.1, e6.2.1) e6.2.2).2.1.1 (mW (ruRQ (e6.1, e6.2.1) e6.2.2).2.1.2)]))])) fun (e8 : (LW × (Int × Int × Int × Int) × (Desk_T × LW × Bool × List Wait_T) × Int × Int) × (Desk_T × LW × Bool × List Wait_T) × (Bool × List (Int × Int)) × Bool × List (Int × Int)) => oK (sdkS.dec [AV.agg [sl e8.2.1.1.1.1 e8.2.1.1.1.2, sl e8.2.1.1.2.1 e8.2.1.1.2.2], AV.agg [sl e8.2.1.2.1.1 e8.2.1.2.1.2, sl e8.2.1.2.2.1 e8.2.1.2.2.2]] []) fun (e9 : LW × LW × LW × Bool × List Wait_T) => bK (!decide (e9.1.2 = e9.2.2.1.2 ∧ e9.2.1.2 = e9.2.2.2.2))
 (some (.inr (.ret, (sf [(6, .bool false)] []))))
 (some (.inl (sf [(1, .slc e8.1.1.1 (List.map (mkV true Row4_fs) e8.1.1.2)), (5, pt 80), (7, pt 112), (8, i6 e8.1.2.2.2.1), (9, pt 144), (10, i6 (IntKind.i64.wrap (e8.1.2.2.2.2 + 1)))] [(80, (bx [i6 e8.1.2.1.1, i6 e8.1.2.1.2.1, i6 e8.1.2.1.2.2.1, i6 e8.1.2.1.2.2.2])), (112, (bx [sl e8.2.1.1.1.1 e8.2.1.1.1.2, sl e8.2.1.1.2.1 e8.2.1.1.2.2])), (144, (bx [sl e8.2.1.2.1.1 e8.2.1.2.1.2, sl e8.2.1.2.2.1 e8.2.1.2.2.2]))]))))))
 (oK (daskS.dec [AV.agg [sl A.1.1 A.1.2, sl A.2.1 A.2.2], i6 now, (AV.agg (Tu.mk Wait_tfs v))] []) fun (e10 : LW × LW × Int × Int × Int × Int × Int) => oK (arefS.dec [AV.agg [sl B.1.1 B.1.2, sl B.2.1 B.2.2], i6 now, (AV.agg (Tu.mk Wait_tfs v))] []) fun (e11 : LW × LW × Int × Int × Int × Int × Int) => bK (!(askQ e10.1.2 e10.2.1.2 e10.2.2.1 e10.2.2.2).2.2.1 == (asRQ (e11.1, e11.2.1) e11.2.2.1 e11.2.2.2).2.2.1)
 (some (.inr (.ret, (sf [(6, .bool false)] []))))
 (bK (!decide ((askQ e10.1.2 e10.2.1.2 e10.2.2.1 e10.2.2.2).2.2.2.2 = (asRQ (e11.1, e11.2.1) e11.2.2.1 e11.2.2.2).2.2.2.2))
 (some (.inr (.ret, (sf [(6, .bool false)] []))))
 (oK (saS.dec [.slc (askQ e10.1.2 e10.2.1.2 e10.2.2.1 e10.2.2.2).2.2.2.1.1 (mi (askQ e10.1.2 e10.2.1.2 e10.2.2.1 e10.2.2.2).2.2.2.1.2), .slc (asRQ (e11.1, e11.2.1) e11.2.2.1 e11.2.2.2).2.2.2.1.1 (mi (asRQ (e11.1, e11.2.1) e11.2.2.1 e11.2.2.2).2.2.2.1.2)] []) fun (e12 : (Bool × List Int) × Bool × List Int) => bK (!saQ e12.1.2 e12.2.2)
 (some (.inr (.ret, (sf [(6, .bool false)] []))))
 (oK (sdkS.dec [AV.agg [.slc (askQ e10.1.2 e10.2.1.2 e10.2.2.1 e10.2.2.2).1.1 (mW (askQ e10.1.2 e10.2.1.2 e10.2.2.1 e10.2.2.2).1.2), .slc (askQ e10.1.2 e10.2.1.2 e10.2.2.1 e10.2.2.2).2.1.1 (mW (askQ e10.1.2 e10.2.1.2 e10.2.2.1 e10.2.2.2).2.1.2)], AV.agg [.slc (asRQ (e11.1, e11.2.1) e11.2.2.1 e11.2.2.2).1.1 (mW (asRQ (e11.1, e11.2.1) e11.2.2.1 e11.2.2.2).1.2), .slc (asRQ (e11.1, e11.2.1) e11.2.2.1 e11.2.2.2).2.1.1 (mW (asRQ (e11.1, e11.2.1) e11.2.2.1 e11.2.2.2).2.1.2)]] []) fun (e13 : LW × LW × LW × Bool × List Wait_T) => bK (!decide (e13.1.2 = e13.2.2.1.2 ∧ e13.2.1.2 = e13.2.2.2.2))
 (some (.inr (.ret, (sf [(6, .bool false)] []))))
 (some (.inl (sf [(1, .slc lx (List.map (mkV true Row4_fs) l)), (5, pt 80), (7, pt 112), (8, i6 now), (9, pt 144), (10, i6 (IntKind.i64.wrap (i + 1)))] [(80, (bx [i6 w.1, i6 w.2.1, i6 w.2.2.1, i6 w.2.2.2])), (112, (bx [.slc (askQ e10.1.2 e10.2.1.2 e10.2.2.1 e10.2.2.2).1.1 (mW (askQ e10.1.2 e10.2.1.2 e10.2.2.1 e10.2.2.2).1.2), .slc (askQ e10.1.2 e10.2.1.2 e10.2.2.1 e10.2.2.2).2.1.1 (mW (askQ e10.1.2 e10.2.1.2 e10.2.2.1 e10.2.2.2).2.1.2)])), (144, (bx [.slc (asRQ (e11.1, e11.2.1) e11.2.2.1 e11.2.2.2).1.1 (mW (asRQ (e11.1, e11.2.1) e11.2.2.1 e11.2.2.2).1.2), .slc (asRQ (e11.1, e11.2.1) e11.2.2.1 e11.2.2.2).2.1.1 (mW (asRQ (e11.1, e11.2.1) e11.2.2.1 e11.2.2.2).2.1.2)]))]))))))))
theorem EInv.mono {m m' now : Int} {L : List Lease_T} {W : List Wait_T} (h : EInv m now L W) (hm : m ≤ m') : EInv m' now L W := ⟨h.d, h.o, h.u, fun x hx => Int.le_trans (h.fl x hx) hm, fun v hv => Int.le_trans (h.fw v hv) hm⟩
theorem rnN_al (now : Int) : ∀ (n : Nat) (D : Desk_T) (a : List Wait_T), (rnN now n D a).2.length ≤ a.length + n
 | 0, D, a => Nat.le_refl _
 | n + 1, D, a => by
  unfold rnN
  by_cases hc : posR D now < 0
  ·rw [if_pos hc]; exact Nat.le_add_right _ _
  ·rw [if_neg hc]
   have := rnN_al now n (nextD D now (D.2.2.getD (posR D now).toNat (0, 0, 0, 0))) (a ++ [D.2.2.getD (posR D now).toNat (0, 0, 0, 0)])
   rw [List.length_append, List.length_singleton] at this
   omega
theorem ask_ln (L : List Lease_T) {W : List Wait_T} (hl : W.length ≤ 4) (now : Int) (w : Wait_T) : (askQ L W now w).1.2.length + (askQ L W now w).2.1.2.length ≤ L.length + W.length + 1 ∧ (askQ L W now w).2.2.2.1.2.length ≤ L.length := by
 have e : askQ L W now w = if mayQd (pruneQ L now) W now w = true then ((false, letsL (pruneQ L now) now w), (W.isEmpty, letsW W w), true, (true, []), 0)
  else if (putQw W w).2 = false then ((L.isEmpty, pruneQ L now), (W.isEmpty, W), false, (true, []), 3)
  else ((L.isEmpty, pruneQ L now), (false, (putQw W w).1), false, ((csF (pruneQ L now) now w.1 w.2.2.1 w.2.2.2).isEmpty, csF (pruneQ L now) now w.1 w.2.2.1 w.2.2.2), 0) := rfl
 have hp := prune_len L now
 rw [e]
 split
 ·have h3 : (letsL (pruneQ L now) now w).length ≤ (pruneQ L now).length + 1 := granQ_len _ _
  have h4 : (letsW W w).length ≤ W.length := dropw_len W w.1
  exact ⟨by show (letsL (pruneQ L now) now w).length + (letsW W w).length ≤ _; omega, Nat.zero_le _⟩
 ·split
  ·exact ⟨by show (pruneQ L now).length + W.length ≤ _; omega, Nat.zero_le _⟩
  ·have p2 := (putQ_spec (w := w) hl).2.1
   have p3 := csF_len (pruneQ L now) now w.1 w.2.2.1 w.2.2.2
   exact ⟨by show (pruneQ L now).length + (putQw W w).1.length ≤ _; omega, by show (csF (pruneQ L now) now w.1 w.2.2.1 w.2.2.2).length ≤ _; omega⟩
theorem run_ln {now now' : Int} (hn : 0 ≤ now') {D : Desk_T} (h : DInv now D.1.2 D.2.2) (hs : D.1.2.length + D.2.2.length ≤ 50) : (runQ D now').1.2.length + (runQ D now').2.1.2.length ≤ D.1.2.length + D.2.2.length ∧ (runQ D now').2.2.1.2.length ≤ 50 ∧ (runQ D now').2.2.2.2.length ≤ 100000 := by
 have h1 := (run_inv hn h).2
 refine ⟨h1, ?_, ?_⟩
 ·have : (runQ D now').2.2.1.2.length ≤ 0 + D.2.2.length := rnN_al now' D.2.2.length (pruD D now') []
  omega
 ·have h2 : (runQ D now').2.2.2.2.length ≤ 0 + (runQ D now').2.1.2.length * (runQ D now').1.2.length := callsN_len _ now' _ []
  have h3 : (runQ D now').2.1.2.length * (runQ D now').1.2.length ≤ 50 * 50 := Nat.mul_le_mul (by omega) (by omega)
  omega
structure AlInv (k : Nat) (A B : Desk_T) (now : Int) : Prop where
 eL : A.1.2 = B.1.2
 eW : A.2.2 = B.2.2
 e : EInv 6 now A.1.2 A.2.2
 n0 : 0 ≤ now
 n1 : now ≤ 975 + 69 * k
 len : A.1.2.length + A.2.2.length ≤ 25 + k
def ALQ (lx : Bool) (l : List Row4) (w : Wait_T) (i : Nat) (z : Option (St ⊕ (Ex × St))) : Prop := ∃ A' B' now', z = some (.inl (alh lx l w A' B' now' ((i + 1 : Nat) : Int))) ∧ AlInv (i + 1) A' B' now'
theorem al_t (lx : Bool) (l : List Row4) (w : Wait_T) (A B : Desk_T) (now : Int) (i : Nat) (d0 d1 : Row4) (v : Wait_T) (hl : ∀ r ∈ l, Tu.wf Row4_fs r) (hi : i < l.length) (hi2 : i < 15) (h : AlInv i A B now) (hv : wOk v) : ALQ lx l w i (al_t_r lx l w A B now i d0 d1 v) := by
 obtain ⟨⟨ax, L⟩, wx, W⟩ := A
 obtain ⟨⟨bx, L'⟩, yx, W'⟩ := B
 obtain ⟨hL, hW, he, hn0, hn1, hlen⟩ := h
 dsimp only at hL hW he hlen
 subst hL hW
 have e2 : l.getD (i : Int).toNat (0, 0, 0, 0) = l[i] := by rw [Int.toNat_natCast, getD_at hi]
 have at_ : ∀ {k : Row4 → Option (St ⊕ (Ex × St))}, ALQ lx l w i (k l[i]) → ALQ lx l w i (oK (elemAt true Row4_fs (l.map (mkV true Row4_fs)) i) k) := fun hk => oK_atq (fs := Row4_fs) (0, 0, 0, 0) (by omega) (by simpa using hi) (by rw [e2]; exact hk)
 have hw := hl _ (List.getElem_mem hi)
 have ei : IntKind.i64.wrap ((i : Int) + 1) = ((i + 1 : Nat) : Int) := by rw [w64 (by omega) (by omega)]; omega
 have hL : L.length ≤ 50 := by omega
 have hW : W.length ≤ 50 := by omega
 unfold al_t_r
 refine at_ ?_
 generalize l[i] = r at hw at_
 have h3 : (0 : Int) ≤ r.2.2.2 ∧ r.2.2.2 ≤ 255 := hw.2.2.2
 generalize IntKind.i64.wrap (1 + IntKind.i64.wrap (d0.2.1.tmod 3)) = c
 generalize IntKind.i64.wrap (1 + IntKind.i64.wrap (d1.2.2.1.tmod 3)) = f
 refine bK_iq (Q := ALQ lx l w i) (fun _ => ?_) (fun _ => bK_iq (Q := ALQ lx l w i) (fun _ => ?_) (fun _ => ?_))
 ·refine oK_fsq (Q := ALQ lx l w i) dgiveS ((ax, L), (wx, W), c, f) ⟨by show L.length ≤ 100000; omega, by show W.length ≤ 100000; omega⟩ ?_
  refine oK_fsq (Q := ALQ lx l w i) girefS ((bx, L), (yx, W), c, f) (by show L.length ≤ 100000; omega) ?_
  have hd := drop_len L c f
  refine oK_fsq (Q := ALQ lx l w i) sdkS ((L.isEmpty, dropQ L c f), (W.isEmpty, W), ((dropQ L c f).isEmpty, dropQ L c f), (yx, W)) ⟨by show (dropQ L c f).length ≤ 100000; omega, by show W.length ≤ 100000; omega⟩ ?_
  dsimp only
  refine bK_fq (Q := ALQ lx l w i) (by simp) ?_
  rw [ei]
  exact ⟨((L.isEmpty, dropQ L c f), (W.isEmpty, W)), (((dropQ L c f).isEmpty, dropQ L c f), (yx, W)), now, rfl, ⟨rfl, rfl, he.drop c f, hn0, by show now ≤ 975 + 69 * ((i + 1 : Nat) : Int); omega, by show (dropQ L c f).length + W.length ≤ _; omega⟩⟩
 ·refine at_ ?_
  have t1 := Int.tmod_nonneg 70 h3.1
  have t2 := Int.tmod_lt_of_pos r.2.2.2 (show (0 : Int) < 70 by omega)
  rw [w64 (n := r.2.2.2.tmod 70) (by omega) (by omega), w64 (n := now + r.2.2.2.tmod 70) (by omega) (by omega)]
  generalize r.2.2.2.tmod 70 = d at t1 t2
  refine oK_fsq (Q := ALQ lx l w i) drunS ((ax, L), (wx, W), now + d) ⟨by show L.length + W.length ≤ 50; omega, by show 0 ≤ now + d; omega, by show now + d ≤ 1000000; omega⟩ ?_
  refine oK_fsq (Q := ALQ lx l w i) rrunS ((bx, L), (yx, W), now + d) ⟨⟨by show L.length ≤ 400; omega, by show W.length ≤ 50; omega⟩, by show 0 ≤ now + d; omega, by show now + d ≤ 1000000; omega⟩ ?_
  dsimp only
  have eR : runQ ((ax, L), wx, W) (now + d) = runQ ((bx, L), yx, W) (now + d) := rfl
  have q := run_eq (D := ((bx, L), yx, W)) (now' := now + d) (by omega) (by omega) he
  have hE := run_E (D := ((bx, L), yx, W)) (now' := now + d) (by omega) (by omega) he
  obtain ⟨g1, g2, g3⟩ := run_ln (D := ((bx, L), yx, W)) (now' := now + d) (by omega) he.d (by show L.length + W.length ≤ 50; omega)
  rw [eR]
  generalize runQ ((bx, L), yx, W) (now + d) = x at q hE g1 g2 g3 ⊢
  generalize ruRQ ((bx, L), yx, W) (now + d) = y at q ⊢
  obtain ⟨⟨xa, XL⟩, ⟨xw, XW⟩, ⟨xs, XS⟩, xc, XC⟩ := x
  obtain ⟨⟨ya, YL⟩, ⟨yw, YW⟩, ⟨ys, YS⟩, yc, YC⟩ := y
  dsimp only at q hE g1 g2 g3 ⊢
  obtain ⟨rfl, rfl, rfl, rfl⟩ := q
  refine oK_fsq (Q := ALQ lx l w i) swSw ((xs, YS), (ys, YS)) (by show YS.length ≤ 100000; omega) ?_
  refine bK_fq (Q := ALQ lx l w i) (by show (!decide (YS = YS)) = false; simp) ?_
  refine bK_fq (Q := ALQ lx l w i) (by simp) ?_
  refine oK_lpf (Q := ALQ lx l w i) cqHd_inj (((lx, l), w, (((ax, L), wx, W), ((bx, L), yx, W)), now + d, (i : Int)), (((xa, YL), xw, YW), ((ya, YL), yw, YW)), (xc, YC), (yc, YC)) ⟨rfl, g3⟩ rfl ?_
  refine oK_fsq (Q := ALQ lx l w i) sdkS ((xa, YL), (xw, YW), (ya, YL), (yw, YW)) ⟨by show YL.length ≤ 100000; omega, by show YW.length ≤ 100000; omega⟩ ?_
  dsimp only
  refine bK_fq (Q := ALQ lx l w i) (by simp) ?_
  rw [ei]
  exact ⟨((xa, YL), xw, YW), ((ya, YL), yw, YW), now + d, rfl, ⟨rfl, rfl, hE, by omega, by show now + d ≤ 975 + 69 * ((i + 1 : Nat) : Int); omega, by show YL.length + YW.length ≤ _; omega⟩⟩
 ·refine oK_fsq (Q := ALQ lx l w i) daskS ((ax, L), (wx, W), now, v) ⟨⟨by show L.length ≤ 100000; omega, by show W.length ≤ 100000; omega⟩, by show 0 ≤ now; omega, by show now ≤ 1000000; omega⟩ ?_
  refine oK_fsq (Q := ALQ lx l w i) arefS ((bx, L), (yx, W), now, v) ⟨⟨by show L.length ≤ 100000; omega, by show W.length ≤ 100000; omega⟩, by show 0 ≤ now; omega, by show now ≤ 1000000; omega⟩ ?_
  dsimp only
  have q := ask_eq (D := ((bx, L), yx, W)) hn0 he hv
  have hE := ask_E hn0 he hv hv.2.1.2
  obtain ⟨g1, g2⟩ := ask_ln L he.d.l now v
  generalize askQ L W now v = x at q hE g1 g2 ⊢
  generalize asRQ ((bx, L), yx, W) now v = y at q ⊢
  obtain ⟨⟨xa, XL⟩, ⟨xw, XW⟩, xo, ⟨xc, XC⟩, xe⟩ := x
  obtain ⟨⟨ya, YL⟩, ⟨yw, YW⟩, yo, ⟨yc, YC⟩, ye⟩ := y
  dsimp only at q hE g1 g2 ⊢
  obtain ⟨rfl, rfl, rfl, rfl, rfl⟩ := q
  refine bK_fq (Q := ALQ lx l w i) (by simp) ?_
  refine bK_fq (Q := ALQ lx l w i) (by simp) ?_
  refine oK_fsq (Q := ALQ lx l w i) saS ((xc, YC), (yc, YC)) (by show YC.length ≤ 100000; omega) ?_
  refine bK_fq (Q := ALQ lx l w i) (by show (!decide (YC = YC)) = false; simp) ?_
  refine oK_fsq (Q := ALQ lx l w i) sdkS ((xa, YL), (xw, YW), (ya, YL), (yw, YW)) ⟨by show YL.length ≤ 100000; omega, by show YW.length ≤ 100000; omega⟩ ?_
  dsimp only
  refine bK_fq (Q := ALQ lx l w i) (by simp) ?_
  rw [ei]
  exact ⟨((xa, YL), xw, YW), ((ya, YL), yw, YW), now, rfl, ⟨rfl, rfl, hE, hn0, by show now ≤ 975 + 69 * ((i + 1 : Nat) : Int); omega, by show YL.length + YW.length ≤ _; omega⟩⟩
noncomputable def al_s_r (lx : Bool) (l : List Row4) (w : Wait_T) (A B : Desk_T) (now i : Int) : Option (St ⊕ Ex × St) :=
 bK (decide (i < (↑(List.map (mkV true Row4_fs) l).length : Int)))
 (oK (elemAt true Row4_fs (List.map (mkV true Row4_fs) l) i) fun (d0 : Int × Int × Int × Int) => oK (elemAt true Row4_fs (List.map (mkV true Row4_fs) l) i) fun (d1 : Int × Int × Int × Int) => oK (elemAt true Row4_fs (List.map (mkV true Row4_fs) l) i) fun (d2 : Int × Int × Int × Int) => bK (decide (i = IntKind.i64.wrap ((↑(List.map (mkV true Row4_fs) l).length : Int) - 1)))
 (bK (decide (1 ≤ w.1))
 (bK (decide (w.1 ≤ 3))
 (bK (decide (w.2.2.2 = 1))
 (bK (decide (1 ≤ w.2.2.1))
 (bK (decide (w.2.2.1 ≤ 6)) (al_t_r lx l w A B now i d0 d1 w) (al_t_r lx l w A B now i d0 d1 ((IntKind.i64.wrap (1 + IntKind.i64.wrap (Int.tmod d0.2.1 3))), (IntKind.i64.wrap (100 + i)), (IntKind.i64.wrap (1 + IntKind.i64.wrap (Int.tmod d1.2.2.1 3))), (IntKind.i64.wrap (1 + IntKind.i64.wrap (Int.tmod d2.2.2.2 2)))))) (al_t_r lx l w A B now i d0 d1 ((IntKind.i64.wrap (1 + IntKind.i64.wrap (Int.tmod d0.2.1 3))), (IntKind.i64.wrap (100 + i)), (IntKind.i64.wrap (1 + IntKind.i64.wrap (Int.tmod d1.2.2.1 3))), (IntKind.i64.wrap (1 + IntKind.i64.wrap (Int.tmod d2.2.2.2 2))))))
 (bK (decide (w.2.2.2 = 2))
 (bK (decide (1 ≤ w.2.2.1))
 (bK (decide (w.2.2.1 ≤ 6)) (al_t_r lx l w A B now i d0 d1 w) (al_t_r lx l w A B now i d0 d1 ((IntKind.i64.wrap (1 + IntKind.i64.wrap (Int.tmod d0.2.1 3))), (IntKind.i64.wrap (100 + i)), (IntKind.i64.wrap (1 + IntKind.i64.wrap (Int.tmod d1.2.2.1 3))), (IntKind.i64.wrap (1 + IntKind.i64.wrap (Int.tmod d2.2.2.2 2)))))) (al_t_r lx l w A B now i d0 d1 ((IntKind.i64.wrap (1 + IntKind.i64.wrap (Int.tmod d0.2.1 3))), (IntKind.i64.wrap (100 + i)), (IntKind.i64.wrap (1 + IntKind.i64.wrap (Int.tmod d1.2.2.1 3))), (IntKind.i64.wrap (1 + IntKind.i64.wrap (Int.tmod d2.2.2.2 2)))))) (al_t_r lx l w A B now i d0 d1 ((IntKind.i64.wrap (1 + IntKind.i64.wrap (Int.tmod d0.2.1 3))), (IntKind.i64.wrap (100 + i)), (IntKind.i64.wrap (1 + IntKind.i64.wrap (Int.tmod d1.2.2.1 3))), (IntKind.i64.wrap (1 + IntKind.i64.wrap (Int.tmod d2.2.2.2 2))))))) (al_t_r lx l w A B now i d0 d1 ((IntKind.i64.wrap (1 + IntKind.i64.wrap (Int.tmod d0.2.1 3))), (IntKind.i64.wrap (100 + i)), (IntKind.i64.wrap (1 + IntKind.i64.wrap (Int.tmod d1.2.2.1 3))), (IntKind.i64.wrap (1 + IntKind.i64.wrap (Int.tmod d2.2.2.2 2)))))) (al_t_r lx l w A B now i d0 d1 ((IntKind.i64.wrap (1 + IntKind.i64.wrap (Int.tmod d0.2.1 3))), (IntKind.i64.wrap (100 + i)), (IntKind.i64.wrap (1 + IntKind.i64.wrap (Int.tmod d1.2.2.1 3))), (IntKind.i64.wrap (1 + IntKind.i64.wrap (Int.tmod d2.2.2.2 2)))))) (al_t_r lx l w A B now i d0 d1 ((IntKind.i64.wrap (1 + IntKind.i64.wrap (Int.tmod d0.2.1 3))), (IntKind.i64.wrap (100 + i)), (IntKind.i64.wrap (1 + IntKind.i64.wrap (Int.tmod d1.2.2.1 3))), (IntKind.i64.wrap (1 + IntKind.i64.wrap (Int.tmod d2.2.2.2 2))))))
 (some (.inr (.exit 0, (sf [] []))))
theorem al_s_w (lx : Bool) (l : List Row4) (w : Wait_T) (A B : Desk_T) (now i : Int) : al_s lx l w A B now i = al_s_r lx l w A B now i := by kernel_rfl
theorem al_e (lx : Bool) (l : List Row4) (hl : ∀ r ∈ l, Tu.wf Row4_fs r) (w : Wait_T) (A B : Desk_T) (now : Int) (i : Nat) (h : AlInv i A B now) (hi : i < l.length) (hi2 : i < 15) : ALQ lx l w i (al_s lx l w A B now i) := by
 rw [al_s_w]
 unfold al_s_r
 have e2 : l.getD (i : Int).toNat (0, 0, 0, 0) = l[i] := by rw [Int.toNat_natCast, getD_at hi]
 have at_ : ∀ {k : Row4 → Option (St ⊕ (Ex × St))}, ALQ lx l w i (k l[i]) → ALQ lx l w i (oK (elemAt true Row4_fs (l.map (mkV true Row4_fs)) i) k) := fun hk => oK_atq (fs := Row4_fs) (0, 0, 0, 0) (by omega) (by simpa using hi) (by rw [e2]; exact hk)
 have hw := hl _ (List.getElem_mem hi)
 refine bK_tq (Q := ALQ lx l w i) (by simp; omega) ?_
 refine at_ (at_ (at_ ?_))
 generalize l[i] = r at hw at_
 have h1 : (0 : Int) ≤ r.2.1 ∧ r.2.1 ≤ 255 := hw.2.1
 have h2 : (0 : Int) ≤ r.2.2.1 ∧ r.2.2.1 ≤ 255 := hw.2.2.1
 have h3 : (0 : Int) ≤ r.2.2.2 ∧ r.2.2.2 ≤ 255 := hw.2.2.2
 obtain ⟨c1, c2, c3⟩ := tm_lt r.2.1 3 h1 (by omega)
 obtain ⟨f1, f2, f3⟩ := tm_lt r.2.2.1 3 h2 (by omega)
 obtain ⟨m1, m2, m3⟩ := tm_lt r.2.2.2 2 h3 (by omega)
 rw [c1, f1, m1]
 generalize IntKind.i64.wrap (100 + (i : Int)) = q
 have hb := al_t lx l w A B now i r r (1 + r.2.1.tmod 3, q, 1 + r.2.2.1.tmod 3, 1 + r.2.2.2.tmod 2) hl hi hi2 h ⟨⟨by show 1 ≤ 1 + r.2.1.tmod 3; omega, by show 1 + r.2.1.tmod 3 ≤ 3; omega⟩, ⟨by show 1 ≤ 1 + r.2.2.1.tmod 3; omega, by show 1 + r.2.2.1.tmod 3 ≤ 6; omega⟩, ⟨by show 1 ≤ 1 + r.2.2.2.tmod 2; omega, by show 1 + r.2.2.2.tmod 2 ≤ 2; omega⟩⟩
 refine bK_iq (Q := ALQ lx l w i) (fun _ => ?_) (fun _ => hb)
 refine bK_iq (Q := ALQ lx l w i) (fun k1 => ?_) (fun _ => hb)
 refine bK_iq (Q := ALQ lx l w i) (fun k2 => ?_) (fun _ => hb)
 have hm : w.2.2.2 = 1 ∨ w.2.2.2 = 2 → 1 ≤ w.2.2.1 → w.2.2.1 ≤ 6 → ALQ lx l w i (al_t_r lx l w A B now i r r w) := fun k3 k4 k5 => al_t lx l w A B now i r r w hl hi hi2 h ⟨⟨k1, k2⟩, ⟨k4, k5⟩, by omega, by omega⟩
 refine bK_iq (Q := ALQ lx l w i) (fun k3 => ?_) (fun _ => bK_iq (Q := ALQ lx l w i) (fun k3 => ?_) (fun _ => hb))
 ·exact bK_iq (Q := ALQ lx l w i) (fun k4 => bK_iq (Q := ALQ lx l w i) (fun k5 => hm (.inl k3) k4 k5) (fun _ => hb)) (fun _ => hb)
 ·exact bK_iq (Q := ALQ lx l w i) (fun k4 => bK_iq (Q := ALQ lx l w i) (fun k5 => hm (.inr k3) k4 k5) (fun _ => hb)) (fun _ => hb)
theorem al_run (lx : Bool) (l : List Row4) (hl : ∀ r ∈ l, Tu.wf Row4_fs r) (hl2 : l.length ≤ 15) (w : Wait_T) : ∀ (j i : Nat) (A B : Desk_T) (now : Int), i + j = l.length → AlInv i A B now → ∀ (fu : Nat), j < fu → Runs' Try.prog cfg Al6 3 0 fu (alh lx l w A B now i) (.exit 0, { fr := [], bs := [], df := [] })
 | 0, i, A, B, now, hi, h, fu + 1, hf => by
  refine Runs'.done (lp := cqP) cqP_ok ga30 ((al_s_w lx l w A B now i).trans ?_)
  unfold al_s_r
  exact bK_neg (by simp; omega)
 | j + 1, i, A, B, now, hi, h, fu + 1, hf => by
  obtain ⟨A', B', now', hs, ha⟩ := al_e lx l hl w A B now i h (by omega) (by omega)
  exact Runs'.step (lp := cqP) cqP_ok ga30 hs (al_run lx l hl hl2 w j (i + 1) A' B' now' (by omega) ha fu (by omega))
def alHd (d : (Bool × List Row4) × Wait_T × (Desk_T × Desk_T) × Int) : St := alh d.1.1 d.1.2 d.2.1 d.2.2.1.1 d.2.2.1.2 d.2.2.2 0
theorem alHd_inj (d d' : (Bool × List Row4) × Wait_T × (Desk_T × Desk_T) × Int) (h : alHd d = alHd d') : d = d' := by
 obtain ⟨⟨lx, l⟩, w, ⟨A, B⟩, now⟩ := d
 obtain ⟨⟨lx', l'⟩, w', ⟨A', B'⟩, now'⟩ := d'
 simp only [alHd, alh, boxB, St.mk.injEq, List.cons.injEq, Prod.mk.injEq, AV.slc.injEq, AV.int.injEq, Blk.mk.injEq, and_true, true_and] at h
 obtain ⟨⟨⟨h1, h2⟩, h5⟩, h6, h7, h8⟩ := h
 rw [h1, map_inj (fs := Row4_fs) rfl h2, h5, mk_inj (fs := Wait_tfs) rfl h6, mk_inj (fs := Desk_tfs) rfl h7, mk_inj (fs := Desk_tfs) rfl h8]
def alPre (l : List Row4) (A B : Desk_T) (now : Int) : Prop := (∀ r ∈ l, Tu.wf Row4_fs r) ∧ l.length ≤ 15 ∧ AlInv 0 A B now
noncomputable def alL : LP := LP.of alHd (fun d => alPre d.1.2 d.2.2.1.1 d.2.2.1.2 d.2.2.2) fun _ => .leaf (.exit 0, { fr := [], bs := [], df := [] })
noncomputable def alP : LPs := LPs.add cqP 3 0 alL
theorem alP_ok : LPok Try.prog cfg Al6 alP 3 := LPok.addH cqP_ok go3 (by
 rintro ⟨⟨lx, l⟩, w, ⟨A, B⟩, now⟩ ⟨h1, h2, h3⟩
 exact al_run lx l h1 h2 w l.length 0 A B now (by omega) h3 rounds (by have : l.length ≤ 15 := h2; simp only [rounds]; omega))
abbrev deskAll_id : Nat := 3
abbrev deskAll_sh : Shp := [none, none, some 4]
abbrev deskAll_fs : List Lf := [.fl false [.fi .u8], .fl true [.fi .u8, .fi .u8, .fi .u8, .fi .u8], .fi .i64, .fi .i64, .fi .i64, .fi .i64]
abbrev deskAll_rsh : Shp := [none]
abbrev deskAll_rfs : List Lf := [.fb]
noncomputable def deskAll_r (picks_x : Bool) (picks : List Int) (l_x : Bool) (l : List (Int × Int × Int × Int)) (wild_Client : Int) (wild_Seq : Int) (wild_File : Int) (wild_Mode : Int) : Option Ret :=
 oK (begunS.dec [] []) fun (d0 : PUnit) =>
 bK (decide (100 < (↑(List.map (mkV false [Lf.fi .u8]) picks).length : Int))) (some (rt (.bool true)))
 (bK (decide (15 < (↑(List.map (mkV true Row4_fs) l).length : Int))) (some (rt (.bool true)))
 (oK (ndskS.dec [pt 1000000, i6 25] [(bx [.slc picks_x (List.map (mkV false [Lf.fi .u8]) picks), i6 0])]) fun (d1 : ((Bool × List Int) × Int) × Int) =>
 oK (alL.dec (sf [(1, .slc l_x (List.map (mkV true Row4_fs) l)), (5, pt 80), (7, pt 112), (8, i6 (ndR (d1.1, d1.2)).2.2.2), (9, pt 144), (10, i6 0)] [(80, (bx [i6 wild_Client, i6 wild_Seq, i6 wild_File, i6 wild_Mode])), (112, (bx [.slc (ndR (d1.1, d1.2)).2.1.1 (mW (ndR (d1.1, d1.2)).2.1.2), .slc (ndR (d1.1, d1.2)).2.2.1.1 (mW (ndR (d1.1, d1.2)).2.2.1.2)])), (144, (bx [.slc (ndR (d1.1, d1.2)).2.1.1 (mW (ndR (d1.1, d1.2)).2.1.2), .slc (ndR (d1.1, d1.2)).2.2.1.1 (mW (ndR (d1.1, d1.2)).2.2.1.2)]))])) fun (d2 : LW × (Int × Int × Int × Int) × (Desk_T × LW × Bool × List Wait_T) × Int) => some (rt (.bool true))))
theorem deskAll_w (picks_x : Bool) (picks : List Int) (l_x : Bool) (l : List (Int × Int × Int × Int)) (wild_Client : Int) (wild_Seq : Int) (wild_File : Int) (wild_Mode : Int) : unitQ Try.prog cfg Al6 alP true 3 (groupA deskAll_sh (Tu.mk deskAll_fs ((picks_x, picks), (l_x, l), wild_Client, wild_Seq, wild_File, wild_Mode))) [] = deskAll_r picks_x picks l_x l wild_Client wild_Seq wild_File wild_Mode := by kernel_rfl

theorem deskAll_yes (picks_x : Bool) (picks : List Int) (l_x : Bool) (l : List (Int × Int × Int × Int)) (wild_Client : Int) (wild_Seq : Int) (wild_File : Int) (wild_Mode : Int) (h : Tu.wf deskAll_fs ((picks_x, picks), (l_x, l), wild_Client, wild_Seq, wild_File, wild_Mode)) : Yes (deskAll_r picks_x picks l_x l wild_Client wild_Seq wild_File wild_Mode) := by
 have hp : ∀ v ∈ picks, 0 ≤ v ∧ v < 256 := wf8 h.1.2
 have hl : ∀ r ∈ l, Tu.wf Row4_fs r := h.2.1.2
 unfold deskAll_r
 refine oK_fsq (Q := Yes) begunS () trivial ?_
 refine bK_iq (Q := Yes) (fun _ => yes_leaf) (fun c1 => bK_iq (Q := Yes) (fun _ => yes_leaf) (fun c2 => ?_))
 rw [List.length_map] at c1 c2
 have hk : pkOk ((picks_x, picks), 0) := ⟨Int.le_refl _, by show (0 : Int) ≤ 2 ^ 62; decide, by show picks.length ≤ 2 ^ 62; omega, hp⟩
 refine oK_msq (Q := Yes) ndskS ((picks_x, picks), 0) (25 : Int) ⟨hk, by show (0 : Int) ≤ 25; decide, by show (25 : Int) ≤ 25; decide⟩ ?_
 have hs := (ndR_spec (((picks_x, picks), 0), 25) ⟨hk, by show (0 : Int) ≤ 25; decide, by show (25 : Int) ≤ 25; decide⟩).1.2
 dsimp only
 generalize ndR (((picks_x, picks), 0), 25) = y at hs ⊢
 exact oK_lpf (Q := Yes) alHd_inj ((l_x, l), (wild_Client, wild_Seq, wild_File, wild_Mode), ((y.2.1, y.2.2.1), (y.2.1, y.2.2.1)), y.2.2.2) ⟨hl, by show l.length ≤ 15; omega, ⟨rfl, rfl, hs.d.mono (by omega), hs.n0, by have := hs.n1; show y.2.2.2 ≤ 975 + 69 * ((0 : Nat) : Int); omega, by have := hs.len; show y.2.1.2.length + y.2.2.1.2.length ≤ 25 + 0; omega⟩⟩ rfl yes_leaf

end Go.Proofs.Ytkanmigbbpppnaa
