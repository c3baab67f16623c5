/- A part of the proof: contracts of functions. -/
import Derived.Test.YtmjgiplgghmapaaL
import Derived.Test.YtmjgiplgghmapaaAbAny

set_option linter.unusedVariables false
set_option linter.unusedSimpArgs false
set_option maxRecDepth 100000
namespace Go.Proofs.Ytmjgiplgghmapaa
open Go Go.Ab
set_option maxHeartbeats 8000000
def spE (e : Bool) : Ex × St := if e = true then (.exit 0, { fr := [], bs := [], df := [] }) else (.ret, { fr := [(4, .bool false)], bs := [], df := [] })
theorem gl13 : (loopsOf 0 (codeOf Try.prog 13)).map (·.1) = [0] := by kernel_rfl
theorem go13 : OneLoops Try.prog 13 := by unfold OneLoops; rw [gl13]; decide
theorem ga13 : At 0 (codeOf Try.prog 13) 0 (.loop (bodyAt Try.prog 13 0)) := at_body go13 (by rw [gl13]; decide)
theorem sp_run (x : Bool) (a : List Step_T) (y : Bool) (b : List Step_T) (hl : a.length ≤ 100000) (hb : b.length = a.length) (hg : ∀ s ∈ a, (gA s).length ≤ 100000) : ∀ (j i : Nat), i + j = a.length → ∀ (fu : Nat), j < fu → Runs' Try.prog cfg Ss1 13 0 fu (sph x a y b i) (spE (decide ((a.drop i).map sK = (b.drop i).map sK)))
  | 0, i, hi, fu + 1, hf => by
    have e : decide ((a.drop i).map sK = (b.drop i).map sK) = true := decide_eq_true (by rw [List.drop_of_length_le (by omega), List.drop_of_length_le (by omega)])
    rw [e]
    refine Runs'.done (lp := LP0) LPok.none ga13 ((sp_s_w x a y b i).trans ?_)
    unfold sp_s_r
    exact bK_neg (by simp; omega)
  | j + 1, i, hi, fu + 1, hf => by
    have h1 : i < a.length := by omega
    have h2 : i < b.length := by omega
    have ei : IntKind.i64.wrap ((i : Int) + 1) = ((i + 1 : Nat) : Int) := by rw [w64 (by omega) (by omega)]; omega
    have e2 : a.getD (i : Int).toNat zStp = a[i] := by rw [Int.toNat_natCast, getD_at h1]
    have e3 : b.getD (i : Int).toNat zStp = b[i] := by rw [Int.toNat_natCast, getD_at h2]
    have hs : sp_s x a y b i = if sK a[i] = sK b[i] then some (.inl (sph x a y b ((i + 1 : Nat) : Int))) else some (.inr (spE false)) := by
      refine (sp_s_w x a y b i).trans ?_
      unfold sp_s_r
      refine bK_tq (Q := fun z => z = _) (by simp; omega) ?_
      refine oK_atq (Q := fun z => z = _) (fs := Step_tfs) zStp (by omega) (by simpa using h1) ?_
      refine oK_atq (Q := fun z => z = _) (fs := Step_tfs) zStp (by omega) (by simpa using h2) ?_
      rw [e2, e3, ei]
      have hga := hg _ (List.getElem_mem h1)
      generalize a[i] = u at hga
      generalize b[i] = v
      refine oK_fsq (Q := fun z => z = _) ssS (sm2 u v) hga ?_
      have e4 : smF (sm2 u v) = decide (sK u = sK v) := rfl
      rw [e4]
      by_cases e : sK u = sK v
      · rw [if_pos e]; exact bK_fq (Q := fun z => z = _) (by rw [decide_eq_true e]; rfl) rfl
      · rw [if_neg e]; exact bK_tq (Q := fun z => z = _) (by rw [decide_eq_false e]; rfl) rfl
    rw [List.drop_eq_getElem_cons h1, List.drop_eq_getElem_cons h2, List.map_cons, List.map_cons]
    by_cases e : sK a[i] = sK b[i]
    · rw [if_pos e] at hs
      have e4 : decide (sK a[i] :: (a.drop (i + 1)).map sK = sK b[i] :: (b.drop (i + 1)).map sK) = decide ((a.drop (i + 1)).map sK = (b.drop (i + 1)).map sK) := by rw [e]; simp only [List.cons.injEq, true_and]
      rw [e4]
      exact Runs'.step (lp := LP0) LPok.none ga13 hs (sp_run x a y b hl hb hg j (i + 1) (by omega) fu (by omega))
    · rw [if_neg e] at hs
      rw [decide_eq_false (fun h => e (List.cons.inj h).1)]
      exact Runs'.done (lp := LP0) LPok.none ga13 hs
abbrev SpD : Type := (Bool × List Step_T) × (Bool × List Step_T)
def spHd (d : SpD) : St := sph d.1.1 d.1.2 d.2.1 d.2.2 0
theorem spHd_inj (d d' : SpD) (h : spHd d = spHd d') : d = d' := by
  obtain ⟨⟨x, a⟩, y, b⟩ := d
  obtain ⟨⟨x', a'⟩, y', b'⟩ := d'
  simp only [spHd, sph, St.mk.injEq, List.cons.injEq, Prod.mk.injEq, AV.slc.injEq, and_true, true_and] at h
  obtain ⟨⟨h1, h2⟩, h3, h4⟩ := h
  rw [h1, h3, map_inj (fs := Step_tfs) rfl h2, map_inj (fs := Step_tfs) rfl h4]
/-- The same steps. -/
def spQ (a b : List Step_T) : Bool := decide (a.map sK = b.map sK)
noncomputable def spL : LP := LP.of spHd (fun d => (d.1.2.length ≤ 100000 ∧ d.2.2.length = d.1.2.length) ∧ ∀ s ∈ d.1.2, (gA s).length ≤ 100000) fun d => .ite (spQ d.1.2 d.2.2) (.leaf (.exit 0, { fr := [], bs := [], df := [] })) (.leaf (.ret, { fr := [(4, .bool false)], bs := [], df := [] }))
noncomputable def spP : LPs := LPs.add LP0 13 0 spL
theorem spP_ok : LPok Try.prog cfg Ss1 spP 13 := LPok.addH LPok.none go13 (by
  rintro ⟨⟨x, a⟩, y, b⟩ ⟨⟨h1, h2⟩, h3⟩
  have hr := sp_run x a y b h1 h2 h3 a.length 0 (by omega) rounds (by have h1 : a.length ≤ 100000 := h1; simp only [rounds]; omega)
  rw [List.drop_zero, List.drop_zero] at hr
  refine cast ?_ hr
  congr 1)
abbrev sp_id : Nat := 13
abbrev sp_sh : Shp := [none, none]
abbrev sp_fs : List Lf := [.fl true Step_tfs, .fl true Step_tfs]
abbrev sp_rsh : Shp := [none]
abbrev sp_rfs : List Lf := [.fb]
noncomputable def sp_r (a_x : Bool) (a : List Step_T) (b_x : Bool) (b : List Step_T) : Option Ret :=
  bK (!decide ((↑(List.map (mkV true [Lf.fi IntKind.i64, Lf.fi IntKind.i64, Lf.fi IntKind.i64, Lf.fi IntKind.i64, Lf.fi IntKind.i64, Lf.fi IntKind.i64, Lf.fi IntKind.i64, Lf.fs, Lf.fl false I1_tfs]) a).length : Int) = (↑(List.map (mkV true [Lf.fi IntKind.i64, Lf.fi IntKind.i64, Lf.fi IntKind.i64, Lf.fi IntKind.i64, Lf.fi IntKind.i64, Lf.fi IntKind.i64, Lf.fi IntKind.i64, Lf.fs, Lf.fl false I1_tfs]) b).length : Int))) (some { pan := false, res := AV.bool false, out := [], new := [] }) (oK (spL.dec { fr := [(0, AV.slc a_x (List.map (mkV true [Lf.fi IntKind.i64, Lf.fi IntKind.i64, Lf.fi IntKind.i64, Lf.fi IntKind.i64, Lf.fi IntKind.i64, Lf.fi IntKind.i64, Lf.fi IntKind.i64, Lf.fs, Lf.fl false I1_tfs]) a)), (1, AV.slc b_x (List.map (mkV true [Lf.fi IntKind.i64, Lf.fi IntKind.i64, Lf.fi IntKind.i64, Lf.fi IntKind.i64, Lf.fi IntKind.i64, Lf.fi IntKind.i64, Lf.fi IntKind.i64, Lf.fs, Lf.fl false I1_tfs]) b)), (5, AV.int IntKind.i64 0)], bs := [], df := [] }) fun (d0 : (Bool × List (Int × Int × Int × Int × Int × Int × Int × List UInt8 × Bool × List Int)) × Bool × List (Int × Int × Int × Int × Int × Int × Int × List UInt8 × Bool × List Int)) => bK (spQ d0.fst.snd d0.snd.snd) (some { pan := false, res := AV.bool true, out := [], new := [] }) (some { pan := false, res := AV.bool false, out := [], new := [] }))
theorem sp_w (a_x : Bool) (a : List Step_T) (b_x : Bool) (b : List Step_T) : unitQ Try.prog cfg Ss1 spP false 13 (groupA sp_sh (Tu.mk sp_fs ((a_x, a), (b_x, b)))) [] = sp_r a_x a b_x b := by kernel_rfl

noncomputable def spS : FS := ⟨sp_sh, sp_fs, sp_rsh, sp_rfs, fun d => d.1.2.length ≤ 100000 ∧ ∀ s ∈ d.1.2, (gA s).length ≤ 100000, fun d => spQ d.1.2 d.2.2, none⟩
theorem spO : ∀ d : Tu spS.fs, spS.pre d → CallOk Try.prog 13 (spS.args d) [] (spS.ret d) := by
  rintro ⟨⟨x, a⟩, y, b⟩ ⟨h1, h2⟩
  refine CallOk.unit (fnOk Ss1_ok 21) rfl spP_ok.loops (o := false) (by show 0 ≤ 1000; decide) ((sp_w x a y b).trans ?_)
  show _ = some (spS.out (spQ a b))
  unfold sp_r
  by_cases hl : a.length = b.length
  · refine bK_fq (Q := fun z => z = _) (by simp; omega) ?_
    refine oK_lpf (Q := fun z => z = _) spHd_inj ((x, a), (y, b)) ⟨⟨h1, hl.symm⟩, h2⟩ rfl ?_
    dsimp only
    cases spQ a b <;> rfl
  · refine bK_tq (Q := fun z => z = _) (by simp; omega) ?_
    have : spQ a b = false := decide_eq_false fun h => hl (by have := congrArg List.length h; simpa using this)
    rw [this]
    rfl
/-- What one step adds to the bytes. -/
def put1 (s : Step_T) : List Int := if 20 < (gA s).length then [] else if (tsF (false, ptQ s)).length = 1 ∧ smF (sm2 ((tsF (false, ptQ s)).getD 0 zStp) s) = true then ptQ s else []
def puh (x : Bool) (a : List Step_T) (i : Int) : List Int → St
  | [] => puh0 x a i
  | y :: t => puh1 x a i (y :: t)
def pux : List Int → St
  | [] => { fr := [(2, .slc true [])], bs := [], df := [] }
  | y :: t => { fr := [(2, .sref 528 0 0 ((y :: t).map (mkV false [.fi .u8])).length)], bs := [(528, { v := 0, k := .row, fz := false, sz := 1, es := (y :: t).map (mkV false [.fi .u8]) })], df := [] }
theorem pu_e0 (x : Bool) (a : List Step_T) (i : Nat) (hi : i < a.length) (hl : a.length ≤ 10000) (u : Step_T) (hu : a[i] = u) : pu_s0 x a i = some (.inl (puh x a ((i + 1 : Nat) : Int) ([] ++ put1 u))) := by
  have ei : IntKind.i64.wrap ((i : Int) + 1) = ((i + 1 : Nat) : Int) := by rw [w64 (by omega) (by omega)]; omega
  have e2 : a.getD (i : Int).toNat zStp = u := by rw [Int.toNat_natCast, getD_at hi, hu]
  refine (pu_s0_w x a i).trans ?_
  unfold pu_s0_r
  refine bK_tq (Q := fun z => z = _) (by simp; omega) ?_
  refine oK_atq (Q := fun z => z = _) (fs := Step_tfs) zStp (by omega) (by simpa using hi) ?_
  rw [e2, ei]
  refine bK_iq (Q := fun z => z = _) (fun c1 => ?_) (fun c1 => ?_)
  · have h1 : put1 u = [] := if_pos (by rw [List.length_map] at c1; show 20 < u.2.2.2.2.2.2.2.2.2.length; omega)
    rw [h1]
    rfl
  · have c1' : ¬ 20 < (gA u).length := by rw [List.length_map] at c1; show ¬ 20 < u.2.2.2.2.2.2.2.2.2.length; omega
    refine oK_fsq (Q := fun z => z = _) ptS u (by show (gA u).length ≤ 1000; omega) ?_
    have hp := ptQ_len u (by omega)
    refine oK_fsq (Q := fun z => z = _) takeS (false, ptQ u) ⟨ptQ_byt u, by show (ptQ u).length ≤ 100000; omega⟩ ?_
    by_cases hk : (tsF (false, ptQ u)).length = 1
    · refine bK_tq (Q := fun z => z = _) (by simp [hk]) ?_
      refine oK_atq (Q := fun z => z = _) (fs := Step_tfs) zStp (by decide) (by show 0 < (tsF (false, ptQ u)).length; omega) ?_
      have e5 : (tsF (false, ptQ u)).getD (0 : Int).toNat zStp = (tsF (false, ptQ u)).getD 0 zStp := rfl
      rw [e5]
      have hg : (gA ((tsF (false, ptQ u)).getD 0 zStp)).length ≤ 100000 := by
        rw [getD_at (by omega)]
        exact Nat.le_trans (tsN_g false _ _ _ (List.getElem_mem _)) (by decide)
      generalize hw : (tsF (false, ptQ u)).getD 0 zStp = w at hg
      refine oK_fsq (Q := fun z => z = _) smS (sm2 w u) hg ?_
      by_cases hm : smF (sm2 w u) = true
      · have h1 : put1 u = ptQ u := by unfold put1; rw [if_neg c1', if_pos ⟨hk, by rw [hw]; exact hm⟩]
        rw [h1]
        refine bK_tq (Q := fun z => z = _) hm (bK_tq (Q := fun z => z = _) (by rw [List.all_eq_true]; intro y hy; obtain ⟨v, _, rfl⟩ := List.mem_map.1 hy; rfl) ?_)
        obtain ⟨p0, pr, hpq⟩ : ∃ p0 pr, ptQ u = p0 :: pr := ⟨_, _, ptQ_eq u⟩
        rw [hpq] at hp
        rw [hpq]
        refine bK_fq (Q := fun z => z = _) rfl (bK_tq (Q := fun z => z = _) ?_ rfl)
        rw [fit5 (by simp only [List.length_map, Nat.zero_add]; omega)]; rfl
      · have h1 : put1 u = [] := by unfold put1; rw [if_neg c1', if_neg (fun h => hm (by rw [← hw]; exact h.2))]
        rw [h1]
        exact bK_fq (Q := fun z => z = _) (by simpa using hm) rfl
    · have h1 : put1 u = [] := by unfold put1; rw [if_neg c1', if_neg (fun h => hk h.1)]
      rw [h1]
      exact bK_fq (Q := fun z => z = _) (by simp; omega) rfl
theorem pu_e1 (x : Bool) (a : List Step_T) (c0 : Int) (cr : List Int) (hc : cr.length ≤ 500000) (i : Nat) (hi : i < a.length) (hl : a.length ≤ 10000) (u : Step_T) (hu : a[i] = u) : pu_s1 x a i (c0 :: cr) = some (.inl (puh x a ((i + 1 : Nat) : Int) ((c0 :: cr) ++ put1 u))) := by
  have ei : IntKind.i64.wrap ((i : Int) + 1) = ((i + 1 : Nat) : Int) := by rw [w64 (by omega) (by omega)]; omega
  have e2 : a.getD (i : Int).toNat zStp = u := by rw [Int.toNat_natCast, getD_at hi, hu]
  refine (pu_s1_w x a i (c0 :: cr)).trans ?_
  unfold pu_s1_r
  refine bK_tq (Q := fun z => z = _) (by simp; omega) ?_
  refine oK_atq (Q := fun z => z = _) (fs := Step_tfs) zStp (by omega) (by simpa using hi) ?_
  rw [e2, ei]
  refine bK_iq (Q := fun z => z = _) (fun c1 => ?_) (fun c1 => ?_)
  · have h1 : put1 u = [] := if_pos (by rw [List.length_map] at c1; show 20 < u.2.2.2.2.2.2.2.2.2.length; omega)
    rw [h1, List.append_nil]
    rfl
  · have c1' : ¬ 20 < (gA u).length := by rw [List.length_map] at c1; show ¬ 20 < u.2.2.2.2.2.2.2.2.2.length; omega
    refine oK_fsq (Q := fun z => z = _) ptS u (by show (gA u).length ≤ 1000; omega) ?_
    have hp := ptQ_len u (by omega)
    refine oK_fsq (Q := fun z => z = _) takeS (false, ptQ u) ⟨ptQ_byt u, by show (ptQ u).length ≤ 100000; omega⟩ ?_
    by_cases hk : (tsF (false, ptQ u)).length = 1
    · refine bK_tq (Q := fun z => z = _) (by simp [hk]) ?_
      refine oK_atq (Q := fun z => z = _) (fs := Step_tfs) zStp (by decide) (by show 0 < (tsF (false, ptQ u)).length; omega) ?_
      have e5 : (tsF (false, ptQ u)).getD (0 : Int).toNat zStp = (tsF (false, ptQ u)).getD 0 zStp := rfl
      rw [e5]
      have hg : (gA ((tsF (false, ptQ u)).getD 0 zStp)).length ≤ 100000 := by
        rw [getD_at (by omega)]
        exact Nat.le_trans (tsN_g false _ _ _ (List.getElem_mem _)) (by decide)
      generalize hw : (tsF (false, ptQ u)).getD 0 zStp = w at hg
      refine oK_fsq (Q := fun z => z = _) smS (sm2 w u) hg ?_
      by_cases hm : smF (sm2 w u) = true
      · have h1 : put1 u = ptQ u := by unfold put1; rw [if_neg c1', if_pos ⟨hk, by rw [hw]; exact hm⟩]
        rw [h1]
        refine bK_tq (Q := fun z => z = _) hm (bK_tq (Q := fun z => z = _) (by rw [List.all_eq_true]; intro y hy; obtain ⟨v, _, rfl⟩ := List.mem_map.1 hy; rfl) ?_)
        obtain ⟨p0, pr, hpq⟩ : ∃ p0 pr, ptQ u = p0 :: pr := ⟨_, _, ptQ_eq u⟩
        rw [hpq] at hp
        rw [hpq]
        have e1 : List.take ((c0 :: cr).map (mkV false [.fi .u8])).length ((c0 :: cr).map (mkV false [.fi .u8])) ++ (p0 :: pr).map (mkV false [.fi .u8]) = ((c0 :: cr) ++ (p0 :: pr)).map (mkV false [.fi .u8]) := by rw [List.take_length, List.map_append]
        have e3 : ((c0 :: cr).map (mkV false [.fi .u8])).length + ((p0 :: pr).map (mkV false [.fi .u8])).length = (((c0 :: cr) ++ (p0 :: pr)).map (mkV false [.fi .u8])).length := by rw [List.map_append, List.length_append]
        refine bK_tq (Q := fun z => z = _) (by simp) (bK_fq (Q := fun z => z = _) rfl (bK_tq (Q := fun z => z = _) ?_ ?_))
        · rw [fit5 (by simp only [List.length_map, List.length_cons] at hp ⊢; omega)]; simp
        · rw [e1, e3]; rfl
      · have h1 : put1 u = [] := by unfold put1; rw [if_neg c1', if_neg (fun h => hm (by rw [← hw]; exact h.2))]
        rw [h1, List.append_nil]
        exact bK_fq (Q := fun z => z = _) (by simpa using hm) rfl
    · have h1 : put1 u = [] := by unfold put1; rw [if_neg c1', if_neg (fun h => hk h.1)]
      rw [h1, List.append_nil]
      exact bK_fq (Q := fun z => z = _) (by simp; omega) rfl
theorem put1_len (s : Step_T) : (put1 s).length ≤ 300 := by
  unfold put1
  split
  · exact Nat.zero_le _
  · split
    · exact ptQ_len2 s (by omega)
    · exact Nat.zero_le _
theorem gl16 : (loopsOf 0 (codeOf Try.prog 16)).map (·.1) = [0] := by kernel_rfl
theorem go16 : OneLoops Try.prog 16 := by unfold OneLoops; rw [gl16]; decide
theorem ga16 : At 0 (codeOf Try.prog 16) 0 (.loop (bodyAt Try.prog 16 0)) := at_body go16 (by rw [gl16]; decide)
theorem pu_run (x : Bool) (a : List Step_T) (hl : a.length ≤ 10000) : ∀ (j i : Nat) (c : List Int), i + j = a.length → c.length + 300 * j ≤ 500000 → ∀ (fu : Nat), j < fu → Runs' Try.prog cfg Pu3 16 0 fu (puh x a i c) (.exit 0, pux (c ++ (a.drop i).flatMap put1))
  | 0, i, c, hi, hc, fu + 1, hf => by
    rw [List.drop_of_length_le (by omega), List.flatMap_nil, List.append_nil]
    cases c with
    | nil =>
      refine Runs'.done (lp := LP0) LPok.none ga16 ((pu_s0_w x a i).trans ?_)
      unfold pu_s0_r
      exact bK_neg (by simp; omega)
    | cons c0 cr =>
      refine Runs'.done (lp := LP0) LPok.none ga16 ((pu_s1_w x a i (c0 :: cr)).trans ?_)
      unfold pu_s1_r
      exact bK_neg (by simp; omega)
  | j + 1, i, c, hi, hc, fu + 1, hf => by
    have h1 : i < a.length := by omega
    have hs : stepK Try.prog cfg Pu3 LP0 16 0 (puh x a i c) = some (.inl (puh x a ((i + 1 : Nat) : Int) (c ++ put1 a[i]))) := by
      cases c with
      | nil => exact pu_e0 x a i h1 hl a[i] rfl
      | cons c0 cr => exact pu_e1 x a c0 cr (by simp only [List.length_cons] at hc; omega) i h1 hl a[i] rfl
    have hp := put1_len a[i]
    have hr := pu_run x a hl j (i + 1) (c ++ put1 a[i]) (by omega) (by rw [List.length_append]; omega) fu (by omega)
    rw [List.append_assoc, ← List.flatMap_cons, ← List.drop_eq_getElem_cons h1] at hr
    exact Runs'.step (lp := LP0) LPok.none ga16 hs hr
def puHd (d : Bool × List Step_T) : St := puh0 d.1 d.2 0
theorem puHd_inj (d d' : Bool × List Step_T) (h : puHd d = puHd d') : d = d' := by
  obtain ⟨x, a⟩ := d
  obtain ⟨x', a'⟩ := d'
  simp only [puHd, puh0, St.mk.injEq, List.cons.injEq, Prod.mk.injEq, AV.slc.injEq, and_true, true_and] at h
  rw [h.1.1, map_inj (fs := Step_tfs) rfl h.1.2]
/-- Steps as bytes. -/
def puF (l : List Step_T) : List Int := l.flatMap put1
noncomputable def puL : LP := LP.of puHd (fun d => d.2.length ≤ 300) fun d => .ite (noI (puF d.2)) (.leaf (.exit 0, { fr := [(2, .slc true [])], bs := [], df := [] })) (.leaf (.exit 0, { fr := [(2, .sref 528 0 0 ((puF d.2).map (mkV false [.fi .u8])).length)], bs := [(528, { v := 0, k := .row, fz := false, sz := 1, es := (puF d.2).map (mkV false [.fi .u8]) })], df := [] }))
noncomputable def puP : LPs := LPs.add LP0 16 0 puL
theorem puP_ok : LPok Try.prog cfg Pu3 puP 16 := LPok.addH LPok.none go16 (by
  rintro ⟨x, a⟩ h
  have h : a.length ≤ 300 := h
  have hr := pu_run x a (by omega) a.length 0 [] (by omega) (by simp only [List.length_nil]; omega) rounds (by simp only [rounds]; omega)
  refine cast ?_ hr
  congr 1
  show (Ex.exit 0, pux (puF a)) = _
  cases puF a <;> rfl)
abbrev pu_id : Nat := 16
abbrev pu_sh : Shp := [none]
abbrev pu_fs : List Lf := [.fl true Step_tfs]
abbrev pu_rsh : Shp := [none]
abbrev pu_rfs : List Lf := [.fl false [.fi .u8]]
noncomputable def pu_r (l_x : Bool) (l : List Step_T) : Option Ret :=
  oK (puL.dec { fr := [(2, AV.slc true []), (7, AV.slc l_x (List.map (mkV true [Lf.fi IntKind.i64, Lf.fi IntKind.i64, Lf.fi IntKind.i64, Lf.fi IntKind.i64, Lf.fi IntKind.i64, Lf.fi IntKind.i64, Lf.fi IntKind.i64, Lf.fs, Lf.fl false I1_tfs]) l)), (8, AV.int IntKind.i64 (↑(List.map (mkV true [Lf.fi IntKind.i64, Lf.fi IntKind.i64, Lf.fi IntKind.i64, Lf.fi IntKind.i64, Lf.fi IntKind.i64, Lf.fi IntKind.i64, Lf.fi IntKind.i64, Lf.fs, Lf.fl false I1_tfs]) l).length : Int)), (9, AV.int IntKind.i64 0)], bs := [], df := [] }) fun (d0 : Bool × List (Int × Int × Int × Int × Int × Int × Int × List UInt8 × Bool × List Int)) => bK (noI (puF d0.snd)) (some { pan := false, res := AV.slc true [], out := [], new := [] }) (bK (decide (0 + (List.map (mkV false [Lf.fi IntKind.u8]) (puF d0.snd)).length ≤ (List.map (mkV false [Lf.fi IntKind.u8]) (puF d0.snd)).length)) (some { pan := false, res := AV.slc false (List.take (List.map (mkV false [Lf.fi IntKind.u8]) (puF d0.snd)).length (List.drop 0 (List.map (mkV false [Lf.fi IntKind.u8]) (puF d0.snd)))), out := [], new := [] }) none)
theorem pu_w (l_x : Bool) (l : List Step_T) : unitQ Try.prog cfg Pu3 puP false 16 (groupA pu_sh (Tu.mk pu_fs (l_x, l))) [] = pu_r l_x l := by kernel_rfl

noncomputable def puS : FS := ⟨pu_sh, pu_fs, pu_rsh, pu_rfs, fun d => d.2.length ≤ 300, fun d => ((puF d.2).isEmpty, puF d.2), none⟩
theorem puO : ∀ d : Tu puS.fs, puS.pre d → CallOk Try.prog 16 (puS.args d) [] (puS.ret d) := by
  rintro ⟨x, a⟩ h
  refine CallOk.unit (fnOk Pu3_ok 21) rfl puP_ok.loops (o := false) (by show 0 ≤ 1000; decide) ((pu_w x a).trans ?_)
  show _ = some (puS.out ((puF a).isEmpty, puF a))
  unfold pu_r
  refine oK_lpf (Q := fun z => z = _) puHd_inj (x, a) h rfl ?_
  dsimp only
  cases puF a with
  | nil => exact bK_tq (Q := fun z => z = _) rfl rfl
  | cons y t =>
    refine bK_fq (Q := fun z => z = _) rfl ?_
    refine bK_tq (Q := fun z => z = _) (by simp) ?_
    rw [List.drop_zero, List.take_length]
    rfl

end Go.Proofs.Ytmjgiplgghmapaa
