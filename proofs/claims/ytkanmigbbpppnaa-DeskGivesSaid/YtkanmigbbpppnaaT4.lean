/- A part of the proof: contracts of functions. -/
import Derived.Test.YtkanmigbbpppnaaS4
import Derived.Test.YtkanmigbbpppnaaAbAny
set_option linter.unusedVariables false
set_option linter.unusedSimpArgs false
set_option maxRecDepth 100000
namespace Go.Proofs.Ytkanmigbbpppnaa
open Go Go.Ab
def g6h (fx : Bool) (fi : List Wait_T) (f : Int) : List Wait_T → St
 | [] => g6h0 fx fi f
 | x :: r => g6h1 fx fi (x :: r) f
theorem g6_e (fx : Bool) (fi : List Wait_T) (s : List Wait_T) (k : Nat) (hk : k ≤ 3) (hs : s.length = fi.length) (hl : fi.length ≤ 1000) (h : ∀ f, flQ f fi = flQ f s) : stepK Try.prog cfg Gv3 g8P 8 6 (g6h fx fi k s) = some (.inl (g6h fx fi ((k + 1 : Nat) : Int) s)) := by
 have ei : IntKind.i64.wrap ((k : Int) + 1) = ((k + 1 : Nat) : Int) := by rw [w64 (by omega) (by omega)]; omega
 cases s with
 | nil =>
  refine (g6_s0_w fx fi k).trans ?_
  unfold g6_s0_r
  refine bK_tq (Q := (· = _)) (decide_eq_true (by omega)) ?_
  refine oK_lpf (Q := (· = _)) g8Hd_inj ((fx, fi), [], (k : Int)) ⟨hs, hl⟩ rfl ?_
  refine bK_tq (Q := (· = _)) rfl ?_
  refine oK_fsq (Q := (· = _)) swSw ((true, []), (true, [])) (by show 0 ≤ 100000; decide) ?_
  refine bK_fq (Q := (· = _)) rfl ?_
  dsimp only
  rw [ei]
  rfl
 | cons b r =>
  refine (g6_s1_w fx fi (b :: r) k).trans ?_
  unfold g6_s1_r
  refine bK_tq (Q := (· = _)) (decide_eq_true (by omega)) ?_
  refine oK_lpf (Q := (· = _)) g8Hd_inj ((fx, fi), b :: r, (k : Int)) ⟨hs, hl⟩ rfl ?_
  refine bK_fq (Q := (· = _)) rfl ?_
  dsimp only
  have hc : (flQ (k : Int) fi).length ≤ 1000 := Nat.le_trans (List.length_filter_le _ _) hl
  rw [← h (k : Int), ei]
  generalize flQ (k : Int) fi = c at hc
  cases c with
  | nil =>
   refine bK_tq (Q := (· = _)) rfl (bK_tq (Q := (· = _)) rfl ?_)
   refine oK_fsq (Q := (· = _)) swSw ((true, []), (true, [])) (by show 0 ≤ 100000; decide) ?_
   exact bK_fq (Q := (· = _)) rfl rfl
  | cons c0 cr =>
   refine bK_fq (Q := (· = _)) rfl (bK_fq (Q := (· = _)) rfl ?_)
   refine bK_tq (Q := (· = _)) (by simp) (bK_tq (Q := (· = _)) (by simp) ?_)
   rw [List.drop_zero, List.take_length]
   refine oK_fsq (Q := (· = _)) swSw ((false, c0 :: cr), (false, c0 :: cr)) (Nat.le_trans hc (by decide)) ?_
   refine bK_fq (Q := (· = _)) (by show (!decide (c0 :: cr = c0 :: cr)) = false; simp) ?_
   rfl
theorem g6_run (fx : Bool) (fi : List Wait_T) (s : List Wait_T) (hs : s.length = fi.length) (hl : fi.length ≤ 1000) (h : ∀ f, flQ f fi = flQ f s) : ∀ (j k : Nat), k + j = 4 → ∀ (fu : Nat), j < fu → Runs' Try.prog cfg Gv3 8 6 fu (g6h fx fi k s) (.exit 6, { fr := [], bs := [], df := [] })
 | 0, k, hk, fu + 1, hf => by
  cases s with
  | nil =>
   refine Runs'.done (lp := g8P) g8P_ok ga86 ((g6_s0_w fx fi k).trans ?_)
   unfold g6_s0_r
   exact bK_neg (decide_eq_false (by omega))
  | cons b r =>
   refine Runs'.done (lp := g8P) g8P_ok ga86 ((g6_s1_w fx fi (b :: r) k).trans ?_)
   unfold g6_s1_r
   exact bK_neg (decide_eq_false (by omega))
 | j + 1, k, hk, fu + 1, hf => Runs'.step (lp := g8P) g8P_ok ga86 (g6_e fx fi s k (by omega) hs hl h) (g6_run fx fi s hs hl h j (k + 1) (by omega) fu (by omega))
abbrev G6D : Type := (Bool × List Wait_T) × List Wait_T
def g6Hd (d : G6D) : St := g6h d.1.1 d.1.2 1 d.2
theorem g6Hd_inj (d d' : G6D) (h : g6Hd d = g6Hd d') : d = d' := by
 obtain ⟨⟨fx, fi⟩, s⟩ := d
 obtain ⟨⟨fx', fi'⟩, s'⟩ := d'
 cases s with
 | nil => cases s' with
  | nil =>
   simp only [g6Hd, g6h, g6h0, St.mk.injEq, List.cons.injEq, Prod.mk.injEq, AV.slc.injEq, and_true, true_and] at h
   obtain ⟨h1, h2⟩ := h
   rw [h1, map_inj (fs := Wait_tfs) rfl h2]
  | cons b r => simp [g6Hd, g6h, g6h0, g6h1] at h
 | cons b r => cases s' with
  | nil => simp [g6Hd, g6h, g6h0, g6h1] at h
  | cons b' r' =>
   have h' : g6h1 fx fi (b :: r) 1 = g6h1 fx' fi' (b' :: r') 1 := h
   simp only [g6h1, St.mk.injEq, List.cons.injEq, Prod.mk.injEq, AV.slc.injEq, Blk.mk.injEq, and_true, true_and] at h'
   obtain ⟨⟨⟨h1, h2⟩, h3⟩, h5⟩ := h'
   rw [h1, map_inj (fs := Wait_tfs) rfl h2, map_inj (fs := Wait_tfs) rfl h5]
def g6Pre (d : G6D) : Prop := d.2.length = d.1.2.length ∧ d.1.2.length ≤ 1000 ∧ ∀ f, flQ f d.1.2 = flQ f d.2
noncomputable def g6L : LP := LP.of g6Hd g6Pre fun _ => .leaf (.exit 6, { fr := [], bs := [], df := [] })
noncomputable def g6P : LPs := LPs.add g8P 8 6 g6L
theorem g6P_ok : LPok Try.prog cfg Gv3 g6P 8 := LPok.addH g8P_ok go8 (by
 rintro ⟨⟨fx, fi⟩, s⟩ ⟨h1, h2, h3⟩
 exact g6_run fx fi s h1 h2 h3 3 1 rfl rounds (by simp only [rounds]; omega))
abbrev deskGives_sh : Shp := [none]
abbrev deskGives_fs : List Lf := [.fl false [.fi .u8]]
noncomputable def deskGives_r (picks_x : Bool) (picks : List Int) : Option Ret :=
 oK (begunS.dec [] []) fun (d0 : PUnit) =>
 bK (decide (100 < (↑(List.map (mkV false [Lf.fi .u8]) picks).length : Int))) (some (rt (.bool true)))
 (oK (ndskS.dec [pt 1000000, i6 25] [(bx [.slc picks_x (List.map (mkV false [Lf.fi .u8]) picks), i6 0])]) fun (d1 : ((Bool × List Int) × Int) × Int) =>
 oK (gvL.dec (sf [(3, pt 48), (4, i6 (ndR (d1.1, d1.2)).2.2.2), (5, .slc (ndR (d1.1, d1.2)).2.2.1.1 (mW (ndR (d1.1, d1.2)).2.2.1.2)), (6, .slc true []), (7, i6 0)] [(48, (bx [.slc (ndR (d1.1, d1.2)).2.1.1 (mW (ndR (d1.1, d1.2)).2.1.2), .slc (ndR (d1.1, d1.2)).2.2.1.1 (mW (ndR (d1.1, d1.2)).2.2.1.2)]))])) fun (d2 : Desk_T × Int × Bool × List Wait_T) =>
 bK (noW (gvS d2.1 d2.2.1)) (bK (!decide ((↑(mW (gvD d2.1 d2.2.1).2.2).length : Int) = 0)) (some (rt (.bool false))) (bK (!decide (0 = (↑(mW d2.2.2.2).length : Int))) (some (rt (.bool false))) (oK (g6L.dec (sf [(5, sl d2.2.2.1 d2.2.2.2), (6, .slc true []), (13, i6 1)] [])) fun (d3 : LW × List Wait_T) => some (rt (.bool true)))))
 (bK (!decide ((↑(mW (gvD d2.1 d2.2.1).2.2).length : Int) = 0)) (some (rt (.bool false))) (bK (decide (0 + (mW (gvS d2.1 d2.2.1)).length ≤ (mW (gvS d2.1 d2.2.1)).length)) (bK (!decide ((↑(mW (gvS d2.1 d2.2.1)).length : Int) = (↑(mW d2.2.2.2).length : Int))) (some (rt (.bool false))) (oK (g6L.dec (sf [(5, sl d2.2.2.1 d2.2.2.2), (6, .sref 896 0 0 (mW (gvS d2.1 d2.2.1)).length), (13, i6 1)] [(896, (rw4 (gvS d2.1 d2.2.1)))])) fun (d4 : LW × List Wait_T) => some (rt (.bool true)))) none)))
theorem deskGives_w (picks_x : Bool) (picks : List Int) : unitQ Try.prog cfg Gv3 g6P true 8 (groupA deskGives_sh (Tu.mk deskGives_fs (picks_x, picks))) [] = deskGives_r picks_x picks := by kernel_rfl
theorem deskGives_yes (picks_x : Bool) (picks : List Int) (h : Tu.wf deskGives_fs (picks_x, picks)) : Yes (deskGives_r picks_x picks) := by
 have hp : ∀ v ∈ picks, 0 ≤ v ∧ v < 256 := fun v hv => by
  have : (0 : Int) ≤ v ∧ v ≤ 255 := h.2 v hv
  omega
 unfold deskGives_r
 refine oK_fsq (Q := Yes) begunS () trivial ?_
 refine bK_iq (Q := Yes) (fun _ => yes_leaf) (fun c1 => ?_)
 rw [List.length_map] at c1
 have hk : pkOk ((picks_x, picks), 0) := ⟨Int.le_refl _, by show (0 : Int) ≤ 2 ^ 62; decide, by show picks.length ≤ 2 ^ 62; omega, hp⟩
 refine oK_msq (Q := Yes) ndskS ((picks_x, picks), 0) (25 : Int) ⟨hk, by show (0 : Int) ≤ 25; decide, by show (25 : Int) ≤ 25; decide⟩ ?_
 have hs := (ndR_spec (((picks_x, picks), 0), 25) ⟨hk, by show (0 : Int) ≤ 25; decide, by show (25 : Int) ≤ 25; decide⟩).1.2
 dsimp only
 generalize ndR (((picks_x, picks), 0), 25) = y at hs ⊢
 obtain ⟨b, DL, DW, now⟩ := y
 obtain ⟨hE, hn0, hn1, hlen⟩ := hs
 dsimp only at hE hn0 hn1 hlen ⊢
 have hpre : gvPre ((DL, DW), now, DW) := ⟨⟨hn0, by show now ≤ 1000000; omega⟩, ⟨hE, hlen, hE.d.l, by show 0 + DW.2.length = DW.2.length; omega, fun f => rfl⟩⟩
 obtain ⟨g, _⟩ := gvP_spec _ hpre
 refine oK_lpf (Q := Yes) gvHd_inj ((DL, DW), now, DW) hpre rfl ?_
 dsimp only at g ⊢
 generalize gvD (DL, DW) now = D at g ⊢
 generalize gvS (DL, DW) now = s at g ⊢
 have e0 : D.2.2 = [] := List.eq_nil_of_length_eq_zero (by have := g.w; omega)
 have e1 : s.length = DW.2.length := by have := g.n; rw [e0] at this; simpa using this
 have e2 : ∀ f, flQ f DW.2 = flQ f s := fun f => by have := g.o f; rw [e0, List.filter_nil, List.append_nil] at this; exact this.symm
 have e3 : DW.2.length ≤ 1000 := by have h4 := hE.d.l; omega
 rw [e0]
 cases s with
 | nil =>
  refine bK_tq (Q := Yes) rfl (bK_fq (Q := Yes) rfl (bK_fq (Q := Yes) ?_ ?_))
  ·rw [List.length_map, ← e1]; rfl
  ·exact oK_lpf (Q := Yes) g6Hd_inj (DW, []) ⟨e1, e3, e2⟩ rfl yes_leaf
 | cons b r =>
  refine bK_fq (Q := Yes) rfl (bK_fq (Q := Yes) rfl (bK_tq (Q := Yes) (by simp) (bK_fq (Q := Yes) ?_ ?_)))
  ·rw [List.length_map, List.length_map, e1]; simp
  ·exact oK_lpf (Q := Yes) g6Hd_inj (DW, b :: r) ⟨e1, e3, e2⟩ rfl yes_leaf
end Go.Proofs.Ytkanmigbbpppnaa
