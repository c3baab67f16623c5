/- A part of the proof: contracts of functions. -/
import Derived.Test.YtkanmigbbpppnaaA2
import Derived.Test.YtkanmigbbpppnaaAbAny

set_option linter.unusedVariables false
set_option linter.unusedSimpArgs false
set_option maxRecDepth 100000
namespace Go.Proofs.Ytkanmigbbpppnaa
open Go Go.Ab
noncomputable def Rf1 : PKs := PKz.add 22 hrefS.pk
theorem Rf1_ok : PKsOk Try.prog Rf1 := PKsOk.anyF PKz_ok 22 hrefS hrefO
def rc0 (x : Bool) (l : List Lease_T) (now c f m k : Int) : St := { fr := [(0, .slc x (l.map (mkV true Lease_tfs))), (1, .int .i64 now), (2, .int .i64 c), (3, .int .i64 f), (4, .int .i64 m), (11, .slc true []), (12, .int .i64 k)], bs := [], df := [] }
def rc1 (x : Bool) (l : List Lease_T) (acc : List Int) (now c f m k : Int) : St := { fr := [(0, .slc x (l.map (mkV true Lease_tfs))), (1, .int .i64 now), (2, .int .i64 c), (3, .int .i64 f), (4, .int .i64 m), (11, .sref 656 0 0 (acc.map (mkV false I1_tfs)).length), (12, .int .i64 k)], bs := [(656, { v := 0, k := .row, fz := false, sz := 1, es := acc.map (mkV false I1_tfs) })], df := [] }
noncomputable def rc0_s (x : Bool) (l : List Lease_T) (now c f m k : Int) : Option (St ⊕ (Ex × St)) := stepK Try.prog cfg Rf1 LP0 39 0 (rc0 x l now c f m k)
noncomputable def rc0_s_r (x : Bool) (l : List Lease_T) (now : Int) (c : Int) (f : Int) (m : Int) (k : Int) : Option (St ⊕ Ex × St) :=
 bK (decide (k ≤ 3))
 (oK (hrefS.dec [sl x l, i6 now, i6 k, i6 f] []) fun (d0 : LW × Int × Int × Int) =>
 bK (!decide (k = c)) (bK (!decide (rhQ d0.1.2 d0.2.1 d0.2.2.1 d0.2.2.2 = 0)) (bK (decide (rhQ d0.1.2 d0.2.1 d0.2.2.1 d0.2.2.2 = 2)) (some (.inl (sf [(0, sl x l), (1, i6 now), (2, i6 c), (3, i6 f), (4, i6 m), (11, .sref 656 0 0 1), (12, i6 (IntKind.i64.wrap (k + 1)))] [(656, { v := 0, k := .row, fz := false, sz := 1, es := [i6 k] })]))) (bK (decide (m = 2)) (some (.inl (sf [(0, sl x l), (1, i6 now), (2, i6 c), (3, i6 f), (4, i6 m), (11, .sref 656 0 0 1), (12, i6 (IntKind.i64.wrap (k + 1)))] [(656, { v := 0, k := .row, fz := false, sz := 1, es := [i6 k] })]))) (some (.inl (sf [(0, sl x l), (1, i6 now), (2, i6 c), (3, i6 f), (4, i6 m), (11, .slc true []), (12, i6 (IntKind.i64.wrap (k + 1)))] []))))) (some (.inl (sf [(0, sl x l), (1, i6 now), (2, i6 c), (3, i6 f), (4, i6 m), (11, .slc true []), (12, i6 (IntKind.i64.wrap (k + 1)))] []))))
 (some (.inl (sf [(0, sl x l), (1, i6 now), (2, i6 c), (3, i6 f), (4, i6 m), (11, .slc true []), (12, i6 (IntKind.i64.wrap (k + 1)))] []))))
 (some (.inr (.exit 0, (sf [(11, .slc true [])] []))))
theorem rc0_s_w (x : Bool) (l : List Lease_T) (now : Int) (c : Int) (f : Int) (m : Int) (k : Int) : rc0_s x l now c f m k = rc0_s_r x l now c f m k := by kernel_rfl

noncomputable def rc1_s (x : Bool) (l : List Lease_T) (acc : List Int) (now c f m k : Int) : Option (St ⊕ (Ex × St)) := stepK Try.prog cfg Rf1 LP0 39 0 (rc1 x l acc now c f m k)
noncomputable def rc1_s_r (x : Bool) (l : List Lease_T) (acc : List Int) (now : Int) (c : Int) (f : Int) (m : Int) (k : Int) : Option (St ⊕ Ex × St) :=
 bK (decide (k ≤ 3))
 (oK (hrefS.dec [sl x l, i6 now, i6 k, i6 f] []) fun (d0 : LW × Int × Int × Int) =>
 bK (!decide (k = c))
 (bK (!decide (rhQ d0.1.2 d0.2.1 d0.2.2.1 d0.2.2.2 = 0))
 (bK (decide (rhQ d0.1.2 d0.2.1 d0.2.2.1 d0.2.2.2 = 2)) (bK (decide (0 + (mi acc).length ≤ (mi acc).length)) (bK (decide (0 = 0 ∧ (mi acc).length = (mi acc).length) && bytesFit Try.prog 3 ((mi acc).length + 1)) (some (.inl (sf [(0, sl x l), (1, i6 now), (2, i6 c), (3, i6 f), (4, i6 m), (11, .sref 656 0 0 ((mi acc).length + 1)), (12, i6 (IntKind.i64.wrap (k + 1)))] [(656, { v := 0, k := .row, fz := false, sz := 1, es := List.take (mi acc).length (mi acc) ++ [i6 k] })]))) none) none)
 (bK (decide (m = 2)) (bK (decide (0 + (mi acc).length ≤ (mi acc).length)) (bK (decide (0 = 0 ∧ (mi acc).length = (mi acc).length) && bytesFit Try.prog 3 ((mi acc).length + 1)) (some (.inl (sf [(0, sl x l), (1, i6 now), (2, i6 c), (3, i6 f), (4, i6 m), (11, .sref 656 0 0 ((mi acc).length + 1)), (12, i6 (IntKind.i64.wrap (k + 1)))] [(656, { v := 0, k := .row, fz := false, sz := 1, es := List.take (mi acc).length (mi acc) ++ [i6 k] })]))) none) none) (some (.inl (sf [(0, sl x l), (1, i6 now), (2, i6 c), (3, i6 f), (4, i6 m), (11, .sref 656 0 0 (mi acc).length), (12, i6 (IntKind.i64.wrap (k + 1)))] [(656, { v := 0, k := .row, fz := false, sz := 1, es := mi acc })])))))
 (some (.inl (sf [(0, sl x l), (1, i6 now), (2, i6 c), (3, i6 f), (4, i6 m), (11, .sref 656 0 0 (mi acc).length), (12, i6 (IntKind.i64.wrap (k + 1)))] [(656, { v := 0, k := .row, fz := false, sz := 1, es := mi acc })]))))
 (some (.inl (sf [(0, sl x l), (1, i6 now), (2, i6 c), (3, i6 f), (4, i6 m), (11, .sref 656 0 0 (mi acc).length), (12, i6 (IntKind.i64.wrap (k + 1)))] [(656, { v := 0, k := .row, fz := false, sz := 1, es := mi acc })]))))
 (some (.inr (.exit 0, (sf [(11, .sref 656 0 0 (mi acc).length)] [(656, { v := 0, k := .row, fz := false, sz := 1, es := mi acc })]))))
theorem rc1_s_w (x : Bool) (l : List Lease_T) (acc : List Int) (now : Int) (c : Int) (f : Int) (m : Int) (k : Int) : rc1_s x l acc now c f m k = rc1_s_r x l acc now c f m k := by kernel_rfl

def rcK (l : List Lease_T) (now c f m k : Int) : Bool := !decide (k = c) && (!decide (rhQ l now k f = 0) && (decide (rhQ l now k f = 2) || decide (m = 2)))
theorem rcl : (loopsOf 0 (codeOf Try.prog 39)).map (·.1) = [0] := by kernel_rfl
theorem rco : OneLoops Try.prog 39 := by unfold OneLoops; rw [rcl]; decide
theorem rca : At 0 (codeOf Try.prog 39) 0 (.loop (bodyAt Try.prog 39 0)) := at_body rco (by rw [rcl]; decide)
def rcN (l : List Lease_T) (now c f m : Int) : Nat → Int → List Int
 | 0, _ => []
 | j + 1, k => (if rcK l now c f m k = true then [k] else []) ++ rcN l now c f m j (k + 1)
theorem rc0_e (x : Bool) (l : List Lease_T) (now c f m k : Int) (hl : l.length ≤ 100000) (hk : 1 ≤ k ∧ k ≤ 3) : rc0_s x l now c f m k = some (.inl (if rcK l now c f m k = true then rc1 x l [k] now c f m (k + 1) else rc0 x l now c f m (k + 1))) := by
 refine (rc0_s_w x l now c f m k).trans ?_
 unfold rc0_s_r
 rw [bK_pos (decide_eq_true (by omega)), w64 (n := k + 1) (by omega) (by omega)]
 refine oK_fsq (Q := (· = _)) hrefS ((x, l), now, k, f) hl ?_
 dsimp only
 unfold rcK
 generalize rhQ l now k f = a
 refine bK_nq (Q := (· = _)) (fun c1 => ?_) (fun c1 => ?_)
 ·refine bK_nq (Q := (· = _)) (fun c2 => ?_) (fun c2 => ?_)
  ·refine bK_iq (Q := (· = _)) (fun c3 => ?_) (fun c3 => ?_)
   ·rw [decide_eq_false c1, decide_eq_false c2, decide_eq_true c3]; rfl
   ·refine bK_iq (Q := (· = _)) (fun c4 => ?_) (fun c4 => ?_)
    ·rw [decide_eq_false c1, decide_eq_false c2, decide_eq_false c3, decide_eq_true c4]; rfl
    ·rw [decide_eq_false c1, decide_eq_false c2, decide_eq_false c3, decide_eq_false c4]; rfl
  ·rw [decide_eq_false c1, decide_eq_true c2]; rfl
 ·rw [decide_eq_true c1]; rfl
theorem rc1_put (x : Bool) (l : List Lease_T) (acc : List Int) (now c f m k i : Int) : rc1 x l (acc ++ [k]) now c f m i = { fr := [(0, .slc x (l.map (mkV true Lease_tfs))), (1, .int .i64 now), (2, .int .i64 c), (3, .int .i64 f), (4, .int .i64 m), (11, .sref 656 0 0 ((acc.map (mkV false I1_tfs)).length + 1)), (12, .int .i64 i)], bs := [(656, { v := 0, k := .row, fz := false, sz := 1, es := List.take (acc.map (mkV false I1_tfs)).length (acc.map (mkV false I1_tfs)) ++ [.int .i64 k] })], df := [] } := by
 unfold rc1
 rw [List.map_append, List.length_append, List.take_length]
 rfl
theorem rcby : Try.prog.bytesOf 3 = 8 := by kernel_rfl
theorem rcfit {n : Nat} (h : n ≤ 1000000) : bytesFit Try.prog 3 n = true := by
 simp only [bytesFit, rcby, decide_eq_true_eq]; omega
theorem rc1_e (x : Bool) (l : List Lease_T) (acc : List Int) (now c f m k : Int) (hl : l.length ≤ 100000) (hk : 1 ≤ k ∧ k ≤ 3) (ha : acc.length ≤ 10) : rc1_s x l acc now c f m k = some (.inl (if rcK l now c f m k = true then rc1 x l (acc ++ [k]) now c f m (k + 1) else rc1 x l acc now c f m (k + 1))) := by
 refine (rc1_s_w x l acc now c f m k).trans ?_
 unfold rc1_s_r
 rw [bK_pos (decide_eq_true (by omega)), w64 (n := k + 1) (by omega) (by omega)]
 refine oK_fsq (Q := (· = _)) hrefS ((x, l), now, k, f) hl ?_
 dsimp only
 unfold rcK
 generalize rhQ l now k f = a
 refine bK_nq (Q := (· = _)) (fun c1 => ?_) (fun c1 => ?_)
 ·refine bK_nq (Q := (· = _)) (fun c2 => ?_) (fun c2 => ?_)
  ·refine bK_iq (Q := (· = _)) (fun c3 => ?_) (fun c3 => ?_)
   ·rw [decide_eq_false c1, decide_eq_false c2, decide_eq_true c3]
    refine bK_tq (Q := (· = _)) (by simp) (bK_tq (Q := (· = _)) (by simp only [decide_true, and_self, Bool.true_and, List.length_map]; exact rcfit (by omega)) ?_)
    rw [show (!false && (!false && (true || decide (m = 2)))) = true from rfl, if_pos rfl, rc1_put]
   ·refine bK_iq (Q := (· = _)) (fun c4 => ?_) (fun c4 => ?_)
    ·rw [decide_eq_false c1, decide_eq_false c2, decide_eq_false c3, decide_eq_true c4]
     refine bK_tq (Q := (· = _)) (by simp) (bK_tq (Q := (· = _)) (by simp only [decide_true, and_self, Bool.true_and, List.length_map]; exact rcfit (by omega)) ?_)
     rw [show (!false && (!false && (false || true))) = true from rfl, if_pos rfl, rc1_put]
    ·rw [decide_eq_false c1, decide_eq_false c2, decide_eq_false c3, decide_eq_false c4]; rfl
  ·rw [decide_eq_false c1, decide_eq_true c2]; rfl
 ·rw [decide_eq_true c1]; rfl
def rcE (acc : List Int) : St := if acc = [] then { fr := [(11, .slc true [])], bs := [], df := [] } else { fr := [(11, .sref 656 0 0 (acc.map (mkV false I1_tfs)).length)], bs := [(656, { v := 0, k := .row, fz := false, sz := 1, es := acc.map (mkV false I1_tfs) })], df := [] }
theorem rc1_run (x : Bool) (l : List Lease_T) (now c f m : Int) (hl : l.length ≤ 100000) : ∀ (j : Nat) (k : Int), 1 ≤ k → k + j = 4 → ∀ (acc : List Int), acc ≠ [] → acc.length + j ≤ 10 → ∀ (fu : Nat), j < fu → Runs' Try.prog cfg Rf1 39 0 fu (rc1 x l acc now c f m k) (.exit 0, rcE (acc ++ rcN l now c f m j k))
 | 0, k, h1, hk, acc, hne, ha, fu + 1, hf => by
  refine Runs'.done (lp := LP0) LPok.none rca ((rc1_s_w x l acc now c f m k).trans ?_)
  unfold rc1_s_r
  rw [bK_neg (decide_eq_false (by omega))]
  simp only [rcN, List.append_nil]
  unfold rcE
  rw [if_neg hne]
 | j + 1, k, h1, hk, acc, hne, ha, fu + 1, hf => by
  have hs := rc1_e x l acc now c f m k hl ⟨h1, by omega⟩ (by omega)
  unfold rcN
  by_cases hq : rcK l now c f m k = true
  ·rw [if_pos hq] at hs ⊢
   have := rc1_run x l now c f m hl j (k + 1) (by omega) (by omega) (acc ++ [k]) (by simp) (by simp; omega) fu (by omega)
   rw [List.append_assoc] at this
   exact Runs'.step (lp := LP0) LPok.none rca hs this
  ·rw [if_neg hq] at hs ⊢
   exact Runs'.step (lp := LP0) LPok.none rca hs (rc1_run x l now c f m hl j (k + 1) (by omega) (by omega) acc hne (by omega) fu (by omega))
theorem rc0_run (x : Bool) (l : List Lease_T) (now c f m : Int) (hl : l.length ≤ 100000) : ∀ (j : Nat) (k : Int), 1 ≤ k → k + j = 4 → ∀ (fu : Nat), j < fu → Runs' Try.prog cfg Rf1 39 0 fu (rc0 x l now c f m k) (.exit 0, rcE (rcN l now c f m j k))
 | 0, k, h1, hk, fu + 1, hf => by
  refine Runs'.done (lp := LP0) LPok.none rca ((rc0_s_w x l now c f m k).trans ?_)
  unfold rc0_s_r
  rw [bK_neg (decide_eq_false (by omega))]
  rfl
 | j + 1, k, h1, hk, fu + 1, hf => by
  have hs := rc0_e x l now c f m k hl ⟨h1, by omega⟩
  unfold rcN
  by_cases hq : rcK l now c f m k = true
  ·rw [if_pos hq] at hs ⊢
   exact Runs'.step (lp := LP0) LPok.none rca hs (rc1_run x l now c f m hl j (k + 1) (by omega) (by omega) [k] (by simp) (by simp only [List.length_cons, List.length_nil]; omega) fu (by omega))
  ·rw [if_neg hq] at hs ⊢
   exact Runs'.step (lp := LP0) LPok.none rca hs (rc0_run x l now c f m hl j (k + 1) (by omega) (by omega) fu (by omega))
abbrev RcD : Type := (Bool × List Lease_T) × Int × Int × Int × Int
def rcHd (d : RcD) : St := rc0 d.1.1 d.1.2 d.2.1 d.2.2.1 d.2.2.2.1 d.2.2.2.2 1
theorem rcHd_inj (d d' : RcD) (h : rcHd d = rcHd d') : d = d' := by
 obtain ⟨⟨x, l⟩, now, c, f, m⟩ := d
 obtain ⟨⟨x', l'⟩, now', c', f', m'⟩ := d'
 simp only [rcHd, rc0, St.mk.injEq, List.cons.injEq, Prod.mk.injEq, AV.slc.injEq, AV.int.injEq, and_true, true_and] at h
 obtain ⟨⟨h1, h2⟩, h3, h4, h5, h6⟩ := h
 rw [h1, map_inj (fs := Lease_tfs) rfl h2, h3, h4, h5, h6]
def rcF (l : List Lease_T) (now c f m : Int) : List Int := rcN l now c f m 3 1
noncomputable def rcL : LP := LP.of rcHd (fun d => d.1.2.length ≤ 100000) fun d => .ite (rcF d.1.2 d.2.1 d.2.2.1 d.2.2.2.1 d.2.2.2.2).isEmpty (.leaf (.exit 0, { fr := [(11, .slc true [])], bs := [], df := [] })) (.leaf (.exit 0, { fr := [(11, .sref 656 0 0 ((rcF d.1.2 d.2.1 d.2.2.1 d.2.2.2.1 d.2.2.2.2).map (mkV false I1_tfs)).length)], bs := [(656, { v := 0, k := .row, fz := false, sz := 1, es := (rcF d.1.2 d.2.1 d.2.2.1 d.2.2.2.1 d.2.2.2.2).map (mkV false I1_tfs) })], df := [] }))
noncomputable def rcP : LPs := LPs.add LP0 39 0 rcL
theorem rcP_ok : LPok Try.prog cfg Rf1 rcP 39 := LPok.addH LPok.none rco (by
 rintro ⟨⟨x, l⟩, now, c, f, m⟩ h
 have := rc0_run x l now c f m h 3 1 (by omega) (by omega) rounds (by simp only [rounds]; omega)
 have e : rcF l now c f m = rcN l now c f m 3 1 := rfl
 rw [← e] at this
 unfold rcE at this
 simp only [Alt.val]
 by_cases hq : rcF l now c f m = []
 ·rw [if_pos hq] at this
  rw [hq]; exact this
 ·rw [if_neg hq] at this
  have : (rcF l now c f m).isEmpty = false := by simpa using hq
  rw [this]; assumption)
abbrev cref_id : Nat := 39
abbrev cref_sh : Shp := [none, none, none, none, none]
abbrev cref_fs : List Lf := [.fl true Lease_tfs, .fi .i64, .fi .i64, .fi .i64, .fi .i64]
abbrev cref_rsh : Shp := [none]
abbrev cref_rfs : List Lf := [.fl false [.fi .i64]]
noncomputable def cref_r (l_x : Bool) (l : List Lease_T) (now : Int) (client : Int) (file : Int) (mode : Int) : Option Ret :=
 oK (rcL.dec (sf [(0, sl l_x l), (1, i6 now), (2, i6 client), (3, i6 file), (4, i6 mode), (11, .slc true []), (12, i6 1)] [])) fun (d0 : LW × Int × Int × Int × Int) => bK (rcF d0.1.2 d0.2.1 d0.2.2.1 d0.2.2.2.1 d0.2.2.2.2).isEmpty (some (rt (.slc true []))) (bK (decide (0 + (mi (rcF d0.1.2 d0.2.1 d0.2.2.1 d0.2.2.2.1 d0.2.2.2.2)).length ≤ (mi (rcF d0.1.2 d0.2.1 d0.2.2.1 d0.2.2.2.1 d0.2.2.2.2)).length)) (some (rt (.slc false (List.take (mi (rcF d0.1.2 d0.2.1 d0.2.2.1 d0.2.2.2.1 d0.2.2.2.2)).length (List.drop 0 (mi (rcF d0.1.2 d0.2.1 d0.2.2.1 d0.2.2.2.1 d0.2.2.2.2))))))) none)
theorem cref_w (l_x : Bool) (l : List Lease_T) (now : Int) (client : Int) (file : Int) (mode : Int) : unitQ Try.prog cfg Rf1 rcP false 39 (groupA cref_sh (Tu.mk cref_fs ((l_x, l), now, client, file, mode))) [] = cref_r l_x l now client file mode := by kernel_rfl

noncomputable def crefS : FS := ⟨cref_sh, cref_fs, cref_rsh, cref_rfs, fun d => d.1.2.length ≤ 100000, fun d => ((rcF d.1.2 d.2.1 d.2.2.1 d.2.2.2.1 d.2.2.2.2).isEmpty, rcF d.1.2 d.2.1 d.2.2.1 d.2.2.2.1 d.2.2.2.2), none⟩
theorem crefO : ∀ d : Tu crefS.fs, crefS.pre d → CallOk Try.prog 39 (crefS.args d) [] (crefS.ret d) := by
 rintro ⟨⟨x, l⟩, now, c, f, m⟩ h
 refine CallOk.unit (fnOk Rf1_ok 21) rfl rcP_ok.loops (o := false) (by show 0 ≤ 1000; decide) ((cref_w x l now c f m).trans ?_)
 show _ = some (crefS.out ((rcF l now c f m).isEmpty, rcF l now c f m))
 unfold cref_r
 refine oK_lpq (Q := (· = _)) rcHd_inj ((x, l), now, c, f, m) h ?_
 dsimp only
 generalize rcF l now c f m = q
 cases q with
 | nil => rfl
 | cons a r =>
  refine bK_fq (Q := (· = _)) rfl (bK_tq (Q := (· = _)) (by simp) ?_)
  rw [List.drop_zero, List.take_length]
  rfl
theorem asc_eq : ∀ {a b : List Int}, a.Pairwise (· < ·) → b.Pairwise (· < ·) → (∀ w, w ∈ a ↔ w ∈ b) → a = b
 | [], [], _, _, _ => rfl
 | [], y :: r, _, _, h => by have := (h y).2 List.mem_cons_self; cases this
 | x :: r, [], _, _, h => by have := (h x).1 List.mem_cons_self; cases this
 | x :: r, y :: s, ha, hb, h => by
  obtain ⟨a1, a2⟩ := List.pairwise_cons.1 ha
  obtain ⟨b1, b2⟩ := List.pairwise_cons.1 hb
  have hxy : x = y := by
   rcases List.mem_cons.1 ((h x).1 List.mem_cons_self) with e | e
   ·exact e
   ·rcases List.mem_cons.1 ((h y).2 List.mem_cons_self) with e' | e'
    ·exact e'.symm
    ·have q := b1 x e
     have q' := a1 y e'
     omega
  subst hxy
  have hx : ∀ s : List Int, (∀ w ∈ s, x < w) → x ∉ s := fun s hs hm => by
   have q := hs x hm
   omega
  rw [asc_eq a2 b2 fun w => ⟨fun hw => ?_, fun hw => ?_⟩]
  ·rcases List.mem_cons.1 ((h w).1 (List.mem_cons_of_mem _ hw)) with e | e
   ·subst e; exact absurd hw (hx r a1)
   ·exact e
  ·rcases List.mem_cons.1 ((h w).2 (List.mem_cons_of_mem _ hw)) with e | e
   ·subst e; exact absurd hw (hx s b1)
   ·exact e
theorem rcN_mem (l : List Lease_T) (now c f m : Int) : ∀ (j : Nat) (k : Int), (rcN l now c f m j k).Pairwise (· < ·) ∧ ∀ w, w ∈ rcN l now c f m j k ↔ (k ≤ w ∧ w < k + j ∧ rcK l now c f m w = true)
 | 0, k => ⟨List.Pairwise.nil, fun w => ⟨fun h => (by cases h), fun h => by omega⟩⟩
 | j + 1, k => by
  obtain ⟨p1, p2⟩ := rcN_mem l now c f m j (k + 1)
  unfold rcN
  by_cases hq : rcK l now c f m k = true
  ·rw [if_pos hq]
   refine ⟨List.pairwise_cons.2 ⟨fun w hw => by have := (p2 w).1 hw; omega, p1⟩, fun w => ?_⟩
   rw [List.singleton_append, List.mem_cons, p2]
   constructor
   ·rintro (rfl | h)
    ·exact ⟨by omega, by omega, hq⟩
    ·exact ⟨by omega, by omega, h.2.2⟩
   ·intro h
    by_cases e : w = k
    ·exact .inl e
    ·exact .inr ⟨by omega, by omega, h.2.2⟩
  ·rw [if_neg hq, List.nil_append]
   refine ⟨p1, fun w => ?_⟩
   rw [p2]
   constructor
   ·intro h; exact ⟨by omega, by omega, h.2.2⟩
   ·intro h
    have e : w ≠ k := fun e => hq (e ▸ h.2.2)
    exact ⟨by omega, by omega, h.2.2⟩
theorem clash_eq {l : List Lease_T} (h : LInv l) (now c f m : Int) : csF l now c f m = rcF l now c f m := by
 obtain ⟨p1, p2⟩ := rcN_mem l now c f m 3 1
 refine asc_eq ?_ p1 fun w => ?_
 ·show ((l.filter (csK l now c f m)).map csg).Pairwise (· < ·)
  rw [List.pairwise_map]
  refine (List.Pairwise.filter _ h.srt).imp_of_mem fun {a b} ha hb hab => ?_
  have ha := (List.mem_filter.1 ha).2
  have hb := (List.mem_filter.1 hb).2
  unfold csK at ha hb
  simp only [Bool.and_eq_true, decide_eq_true_eq] at ha hb
  unfold LT at hab
  show a.1 < b.1
  have := ha.1.1
  have := hb.1.1
  omega
 ·have er : w ∈ rcF l now c f m ↔ (1 ≤ w ∧ w < 1 + (3 : Nat) ∧ rcK l now c f m w = true) := p2 w
  rw [er]
  have ec : w ∈ csF l now c f m ↔ ∃ v ∈ l, csK l now c f m v = true ∧ v.1 = w := by
   show w ∈ (l.filter (csK l now c f m)).map csg ↔ _
   rw [List.mem_map]
   constructor
   ·rintro ⟨v, hv, e⟩
    have := List.mem_filter.1 hv
    exact ⟨v, this.1, this.2, e⟩
   ·rintro ⟨v, h1, h2, h3⟩
    exact ⟨v, List.mem_filter.2 ⟨h1, h2⟩, h3⟩
  rw [ec]
  unfold rcK csK
  rw [rh_eq h.srt]
  simp only [Bool.and_eq_true, Bool.or_eq_true, Bool.not_eq_true', decide_eq_true_eq, decide_eq_false_iff_not]
  constructor
  ·rintro ⟨v, hv, ⟨⟨h1, h2⟩, h3, h4⟩, rfl⟩
   have := okE_iff.1 (h.ok v hv)
   exact ⟨by omega, by omega, h2, h3, h4.symm⟩
  ·rintro ⟨h1, h2, h3, h4, h5⟩
   obtain ⟨v, hv, hk, _⟩ := hold_ne h.srt h4
   refine ⟨v, hv, ⟨⟨hk.2, by rw [hk.1]; exact h3⟩, ?_, ?_⟩, hk.1⟩
   ·rw [hk.1]; exact h4
   ·rw [hk.1]; exact h5.symm

end Go.Proofs.Ytkanmigbbpppnaa
