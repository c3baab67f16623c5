/- A part of the proof: contracts of functions. -/
import Derived.Test.YtacpbgkljdgmlaaD
import Derived.Test.YtacpbgkljdgmlaaAbAny

set_option linter.unusedVariables false
set_option linter.unusedSimpArgs false
set_option maxRecDepth 100000
namespace Go.Proofs.Ytacpbgkljdgmlaa
open Go Go.Ab
def nmS (x : Bool) (l : List Row4) (fx : Bool) (f : List Gram_T) : List Gram_T → Int → St
  | [], i => { fr := [(0, .slc x (l.map (mkV true Row4_fs))), (3, .slc fx (f.map (mkV true Gram_tfs))), (4, .slc true []), (5, .int .i64 i)], bs := [], df := [] }
  | a :: r, i => nm1 x l fx f (a :: r) i
def nmGood (x : Bool) (l : List Row4) (i : Nat) (r : Option (St ⊕ (Ex × St))) : Prop := ∃ (fx : Bool) (f s : List Gram_T), NI f s (i + 1) ∧ r = some (.inl (nmS x l fx f s ((i : Int) + 1)))
theorem nm_fin (x : Bool) (l : List Row4) (i : Nat) (hi : i ≤ 999) (fx : Bool) (f s : List Gram_T) (h : NI f s (i + 1)) (st : St) (e : st = n3Hd ((x, l), (fx, f), s, (i : Int))) : nmGood x l i (oK (n3L.dec st) fun d3 => bK (noneQ d3.2.2.1) (some (.inl { fr := [(0, .slc d3.1.1 (d3.1.2.map (mkV true Row4_fs))), (3, .slc d3.2.1.1 (d3.2.1.2.map (mkV true Gram_tfs))), (4, .slc true []), (5, .int .i64 (IntKind.i64.wrap (d3.2.2.2 + 1)))], bs := [], df := [] })) (some (.inl { fr := [(0, .slc d3.1.1 (d3.1.2.map (mkV true Row4_fs))), (3, .slc d3.2.1.1 (d3.2.1.2.map (mkV true Gram_tfs))), (4, .sref 1280 0 0 (d3.2.2.1.map (mkV true Gram_tfs)).length), (5, .int .i64 (IntKind.i64.wrap (d3.2.2.2 + 1)))], bs := sentB d3.2.2.1, df := [] }))) := by
  refine oK_lpe n3Hd_inj ((x, l), (fx, f), s, (i : Int)) ⟨fun hs => h.nil hs, h.okN (by omega)⟩ e ?_
  dsimp only
  rw [w64 (n := (i : Int) + 1) (by omega) (by omega)]
  refine ⟨fx, f, s, h, ?_⟩
  cases s with
  | nil => rfl
  | cons a r => rfl
theorem n3Hd_ne (x : Bool) (l : List Row4) (fx : Bool) (f : List Gram_T) (i : Int) : ∀ (s : List Gram_T), s ≠ [] → n3Hd ((x, l), (fx, f), s, i) = { fr := [(0, .slc x (l.map (mkV true Row4_fs))), (3, .slc fx (f.map (mkV true Gram_tfs))), (4, .sref 1280 0 0 (s.map (mkV true Gram_tfs)).length), (5, .int .i64 i), (9, .int .i64 0)], bs := sentB s, df := [] }
  | [], h => absurd rfl h
  | _ :: _, _ => rfl
theorem bytesGr : Try.prog.bytesOf 24 = 32 := by kernel_rfl
theorem fitGr {n : Nat} (h : n ≤ 1000000) : bytesFit Try.prog 24 n = true := by
  simp only [bytesFit, bytesGr, decide_eq_true_eq]; omega
theorem send_len (f : List Gram_T) (g : Gram_T) (h : f.length ≤ 40) : (((sendF f g).map (mkV true Gram_tfs)).length : Int) = minI (IntKind.i64.wrap (((f.map (mkV true Gram_tfs)).length : Int) + 1)) 40 := by
  rw [List.length_map, List.length_map, w64 (by omega) (by omega)]
  unfold sendF minI
  split
  · rw [List.length_append, List.length_singleton]; split <;> omega
  · split <;> omega
set_option maxHeartbeats 4000000 in
theorem nm1_step (x : Bool) (l : List Row4) (fx : Bool) (f s : List Gram_T) (i : Nat) (hi : i < l.length) (hl : l.length ≤ 100) (h : NI f s i) (hs : s ≠ []) : nmGood x l i (nm_1_r x l fx f s i) := by
  unfold nm_1_r
  have hf : f.length ≤ 100000 := by have := h.1.1; omega
  have hsl := h.1.2.1
  have at_ : ∀ {Q : Option (St ⊕ (Ex × St)) → Prop} {k : Row4 → Option (St ⊕ (Ex × St))}, Q (k l[i]) → Q (oK (elemAt true Row4_fs (l.map (mkV true Row4_fs)) i) k) := fun hk => oK_atq (fs := Row4_fs) (0, 0, 0, 0) (by omega) (by simpa using hi) (by rw [Int.toNat_natCast, getD_at hi]; exact hk)
  have le : ∀ {L : List Gram_T}, L.length ≤ 40 → decide (40 < ((L.map (mkV true Gram_tfs)).length : Int)) = false := fun hL => by rw [List.length_map]; exact decide_eq_false (by omega)
  have old : ∀ (fx' : Bool) (f' : List Gram_T), NI f' s (i + 1) → nmGood x l i (oK (n3L.dec { fr := [(0, .slc x (l.map (mkV true Row4_fs))), (3, .slc fx' (f'.map (mkV true Gram_tfs))), (4, .sref 1280 0 0 (s.map (mkV true Gram_tfs)).length), (5, .int .i64 (i : Int)), (9, .int .i64 0)], bs := sentB s, df := [] }) fun d3 => bK (noneQ d3.2.2.1) (some (.inl { fr := [(0, .slc d3.1.1 (d3.1.2.map (mkV true Row4_fs))), (3, .slc d3.2.1.1 (d3.2.1.2.map (mkV true Gram_tfs))), (4, .slc true []), (5, .int .i64 (IntKind.i64.wrap (d3.2.2.2 + 1)))], bs := [], df := [] })) (some (.inl { fr := [(0, .slc d3.1.1 (d3.1.2.map (mkV true Row4_fs))), (3, .slc d3.2.1.1 (d3.2.1.2.map (mkV true Gram_tfs))), (4, .sref 1280 0 0 (d3.2.2.1.map (mkV true Gram_tfs)).length), (5, .int .i64 (IntKind.i64.wrap (d3.2.2.2 + 1)))], bs := sentB d3.2.2.1, df := [] }))) := fun fx' f' h' => nm_fin x l i (by omega) fx' f' s h' _ (n3Hd_ne x l fx' f' i s hs).symm
  refine bK_tq (by rw [List.length_map]; exact decide_eq_true (by omega)) (at_ (at_ ?_))
  refine bK_iq (fun _ => ?_) (fun _ => bK_iq (fun _ => ?_) (fun _ => bK_iq (fun _ => ?_) (fun _ => bK_iq (fun _ => ?_) (fun _ => bK_iq (fun _ => ?_) (fun _ => bK_iq (fun _ => ?_) (fun _ => ?_))))))
  iterate 3
    · refine oK_fsq sendS ((fx, f), ((2 : Int), _, false)) hf ?_
      dsimp only
      refine bK_tq (decide_eq_true (by omega)) (bK_tq (by simp only [List.length_map, and_self, decide_true, Bool.true_and]; exact fitGr (by omega)) ?_)
      have hn := h.send [UInt8.ofNat (IntKind.u8.wrap (97 + IntKind.u8.wrap ((i : Int).tmod 26))).toNat, UInt8.ofNat (IntKind.u8.wrap (97 + IntKind.u8.wrap (IntKind.i64.wrap ((i : Int).tdiv 26)))).toNat, UInt8.ofNat 122] (by simp)
      refine bK_fq (by rw [send_len f _ h.1.1, decide_eq_true rfl]; rfl) (bK_fq (le hn.1.1) ?_)
      refine nm_fin x l i (by omega) false _ _ hn _ ?_
      rw [n3Hd_ne _ _ _ _ _ _ (by simp), List.take_length, List.length_map, List.length_map, List.length_append, List.length_singleton]
      unfold sentB
      rw [List.map_append]
      rfl
  · refine oK_fsq comesS ((fx, f), _) hf ?_
    dsimp only
    exact bK_fq (le (h.comes _).1.1) (old _ _ (h.comes _))
  · refine oK_fsq comesS ((fx, f), _) hf ?_
    dsimp only
    exact bK_fq (le (h.comes _).1.1) (old _ _ (h.comes _))
  · refine oK_fsq twiceS ((fx, f), _) hf ?_
    dsimp only
    exact bK_fq (le (h.twice _).1.1) (old _ _ (h.twice _))
  · refine at_ (at_ ?_)
    refine oK_fsq turnedS ((fx, f), _, _) ⟨hf, h.1.2.2, wrap_lt _⟩ ?_
    dsimp only
    exact bK_fq (le (h.turned _ _ (wrap_lt _)).1.1) (old _ _ (h.turned _ _ (wrap_lt _)))
set_option maxHeartbeats 4000000 in
theorem nm0_step (x : Bool) (l : List Row4) (fx : Bool) (i : Nat) (hi : i < l.length) (hl : l.length ≤ 100) : nmGood x l i (nm_0_r x l fx i) := by
  unfold nm_0_r
  have h : NI [] [] i := ⟨⟨by decide, by simp, by simp⟩, by simp⟩
  have hf : ([] : List Gram_T).length ≤ 100000 := by decide
  have at_ : ∀ {Q : Option (St ⊕ (Ex × St)) → Prop} {k : Row4 → Option (St ⊕ (Ex × St))}, Q (k l[i]) → Q (oK (elemAt true Row4_fs (l.map (mkV true Row4_fs)) i) k) := fun hk => oK_atq (fs := Row4_fs) (0, 0, 0, 0) (by omega) (by simpa using hi) (by rw [Int.toNat_natCast, getD_at hi]; exact hk)
  have le : ∀ {L : List Gram_T}, L.length ≤ 40 → decide (40 < ((L.map (mkV true Gram_tfs)).length : Int)) = false := fun hL => by rw [List.length_map]; exact decide_eq_false (by omega)
  refine bK_tq (by rw [List.length_map]; exact decide_eq_true (by omega)) (at_ (at_ ?_))
  refine bK_iq (fun _ => ?_) (fun _ => bK_iq (fun _ => ?_) (fun _ => bK_iq (fun _ => ?_) (fun _ => bK_iq (fun _ => ?_) (fun _ => bK_iq (fun _ => ?_) (fun _ => bK_iq (fun _ => ?_) (fun _ => ?_))))))
  iterate 3
    · refine oK_fsq sendS ((fx, []), ((2 : Int), _, false)) hf ?_
      dsimp only
      have hn := h.send [UInt8.ofNat (IntKind.u8.wrap (97 + IntKind.u8.wrap ((i : Int).tmod 26))).toNat, UInt8.ofNat (IntKind.u8.wrap (97 + IntKind.u8.wrap (IntKind.i64.wrap ((i : Int).tdiv 26)))).toNat, UInt8.ofNat 122] (by simp)
      refine bK_fq (by rfl) (bK_fq (le hn.1.1) ?_)
      exact nm_fin x l i (by omega) false _ _ hn _ rfl
  · refine oK_fsq comesS ((fx, []), _) hf ?_
    dsimp only
    exact bK_fq (le (h.comes _).1.1) (nm_fin x l i (by omega) _ _ _ (h.comes _) _ rfl)
  · refine oK_fsq comesS ((fx, []), _) hf ?_
    dsimp only
    exact bK_fq (le (h.comes _).1.1) (nm_fin x l i (by omega) _ _ _ (h.comes _) _ rfl)
  · refine oK_fsq twiceS ((fx, []), _) hf ?_
    dsimp only
    exact bK_fq (le (h.twice _).1.1) (nm_fin x l i (by omega) _ _ _ (h.twice _) _ rfl)
  · refine at_ (at_ ?_)
    refine oK_fsq turnedS ((fx, []), _, _) ⟨hf, by simp, wrap_lt _⟩ ?_
    dsimp only
    exact bK_fq (le (h.turned _ _ (wrap_lt _)).1.1) (nm_fin x l i (by omega) _ _ _ (h.turned _ _ (wrap_lt _)) _ rfl)
theorem nm_run (x : Bool) (l : List Row4) (hl : l.length ≤ 100) : ∀ (j i : Nat), i + j = l.length → ∀ (fx : Bool) (f s : List Gram_T), NI f s i → ∀ (r : Nat), j < r → Runs' Try.prog cfg B1 4 0 r (nmS x l fx f s i) (.exit 0, { fr := [], bs := [], df := [] })
  | 0, i, hi, fx, f, [], h, r + 1, hr => by
    have hf := h.nil rfl
    subst hf
    refine Runs'.done (lp := n3LP) n3LP_ok at40 ((nm_0_w x l fx i).trans ?_)
    unfold nm_0_r
    rw [bK_neg (by rw [List.length_map]; exact decide_eq_false (by omega))]
  | 0, i, hi, fx, f, a :: s, h, r + 1, hr => by
    refine Runs'.done (lp := n3LP) n3LP_ok at40 ((nm_1_w x l fx f (a :: s) i).trans ?_)
    unfold nm_1_r
    rw [bK_neg (by rw [List.length_map]; exact decide_eq_false (by omega))]
  | j + 1, i, hi, fx, f, [], h, r + 1, hr => by
    have hf := h.nil rfl
    subst hf
    obtain ⟨fx', f', s', h', e⟩ := nm0_step x l fx i (by omega) hl
    exact Runs'.step (lp := n3LP) n3LP_ok at40 ((nm_0_w x l fx i).trans e) (nm_run x l hl j (i + 1) (by omega) fx' f' s' h' r (by omega))
  | j + 1, i, hi, fx, f, a :: s, h, r + 1, hr => by
    obtain ⟨fx', f', s', h', e⟩ := nm1_step x l fx f (a :: s) i (by omega) hl h (by simp)
    exact Runs'.step (lp := n3LP) n3LP_ok at40 ((nm_1_w x l fx f (a :: s) i).trans e) (nm_run x l hl j (i + 1) (by omega) fx' f' s' h' r (by omega))
abbrev NmD : Type := Bool × List Row4
def nmHd (d : NmD) : St := { fr := [(0, .slc d.1 (d.2.map (mkV true Row4_fs))), (3, .slc true []), (4, .slc true []), (5, .int .i64 0)], bs := [], df := [] }
noncomputable def nmL : LP := LP.of nmHd (fun d => d.2.length ≤ 100) fun _ => .leaf (.exit 0, { fr := [], bs := [], df := [] })
noncomputable def nmLP : LPs := LPs.add n3LP 4 0 nmL
theorem nmLP_ok : LPok Try.prog cfg B1 nmLP 4 := LPok.addH n3LP_ok one4 fun d h => by
  have h' : d.2.length ≤ 100 := h
  exact nm_run d.1 d.2 h' d.2.length 0 (by omega) true [] [] ⟨⟨by decide, by simp, by simp⟩, by simp⟩ rounds (by simp only [rounds]; omega)
theorem nmHd_inj (d d' : NmD) (h : nmHd d = nmHd d') : d = d' := by
  obtain ⟨x, l⟩ := d
  obtain ⟨x', l'⟩ := d'
  simp only [nmHd, St.mk.injEq, List.cons.injEq, Prod.mk.injEq, AV.slc.injEq, and_true, true_and] at h
  rw [h.1, map_inj (fs := Row4_fs) rfl h.2]
abbrev netMade_id : Nat := 4
abbrev netMade_sh : Shp := [none]
abbrev netMade_fs : List Lf := [.fl true [.fi .u8, .fi .u8, .fi .u8, .fi .u8]]
abbrev netMade_rsh : Shp := [none]
abbrev netMade_rfs : List Lf := [.fb]
noncomputable def netMade_r (l_x : Bool) (l : List (Int × Int × Int × Int)) : Option Ret :=
  oK (begunS.dec [] []) fun (d0 : PUnit) => bK (decide (70 < (↑(List.map (mkV true [Lf.fi IntKind.u8, Lf.fi IntKind.u8, Lf.fi IntKind.u8, Lf.fi IntKind.u8]) l).length : Int))) (some { pan := false, res := AV.bool true, out := [], new := [] }) (oK (nmL.dec { fr := [(0, AV.slc l_x (List.map (mkV true [Lf.fi IntKind.u8, Lf.fi IntKind.u8, Lf.fi IntKind.u8, Lf.fi IntKind.u8]) l)), (3, AV.slc true []), (4, AV.slc true []), (5, AV.int IntKind.i64 0)], bs := [], df := [] }) fun (d1 : Bool × List (Int × Int × Int × Int)) => some { pan := false, res := AV.bool true, out := [], new := [] })
theorem netMade_w (l_x : Bool) (l : List (Int × Int × Int × Int)) : unitQ Try.prog cfg B1 nmLP true 4 (groupA netMade_sh (Tu.mk netMade_fs (l_x, l))) [] = netMade_r l_x l := by kernel_rfl

theorem netMade_yes (l_x : Bool) (l : List (Int × Int × Int × Int)) (h : Tu.wf netMade_fs (l_x, l)) : Yes (netMade_r l_x l) := by
  unfold netMade_r
  refine oK_fsq begunS () trivial ?_
  refine bK_iq (fun _ => yes_leaf) (fun h1 => ?_)
  rw [List.length_map] at h1
  refine oK_lpq nmHd_inj (l_x, l) (by show l.length ≤ 100; omega) ?_
  exact yes_leaf

end Go.Proofs.Ytacpbgkljdgmlaa
