/- A part of the proof: contracts of functions. -/
import Derived.Test.YtnmkpfhihjonkaaA
import Derived.Test.YtnmkpfhihjonkaaAbCl

set_option linter.unusedVariables false
set_option linter.unusedSimpArgs false
set_option maxRecDepth 100000
namespace Go.Proofs.Ytnmkpfhihjonkaa
open Go Go.Ab
def fbHd (x : Bool) (l : List Write_T) (b : List UInt8) (n k w i : Int) : St :=
  { fr := [(7, .slc x (l.map (mkV true Write_tfs))), (8, .str b), (9, .int .i64 n), (10, .int .i64 k), (11, .int .u8 w), (13, .int .i64 i)], bs := [], df := [] }
noncomputable def fb_s (x : Bool) (l : List Write_T) (b : List UInt8) (n k w i : Int) : Option (St ⊕ (Ex × St)) := stepK Try.prog cfg PK6 LP0 4 0 (fbHd x l b n k w i)
noncomputable def fb_s_r (x : Bool) (l : List Write_T) (b : List UInt8) (n : Int) (k : Int) (w : Int) (i : Int) : Option (St ⊕ Ex × St) :=
  bK (decide (i < (↑(List.map (mkV true Write_tfs) l).length : Int)))
  (oK (elemAt true Write_tfs (List.map (mkV true Write_tfs) l) i) fun (d0 : Int × List UInt8) =>
    oK (elemAt true Write_tfs (List.map (mkV true Write_tfs) l) i) fun (d1 : Int × List UInt8) =>
      oK (elemAt true Write_tfs (List.map (mkV true Write_tfs) l) i) fun (d2 : Int × List UInt8) =>
        bK (decide (d2.fst ≤ k)) (oK (elemAt true Write_tfs (List.map (mkV true Write_tfs) l) i) fun (d3 : Int × List UInt8) => oK (elemAt true Write_tfs (List.map (mkV true Write_tfs) l) i) fun (d4 : Int × List UInt8) => bK (decide (k < IntKind.i64.wrap (d3.fst + (↑(List.length d4.snd) : Int)))) (oK (elemAt true Write_tfs (List.map (mkV true Write_tfs) l) i) fun (d5 : Int × List UInt8) => oK (elemAt true Write_tfs (List.map (mkV true Write_tfs) l) i) fun (d6 : Int × List UInt8) => bK (decide (0 ≤ IntKind.i64.wrap (k - d6.fst))) (oK d5.snd[(IntKind.i64.wrap (k - d6.fst)).toNat]? fun (d7 : UInt8) => some (Sum.inl { fr := [(7, AV.slc x (List.map (mkV true Write_tfs) l)), (8, AV.str b), (9, AV.int IntKind.i64 (maxI n (IntKind.i64.wrap (d0.fst + (↑(List.length d1.snd) : Int))))), (10, AV.int IntKind.i64 k), (11, AV.int IntKind.u8 (↑d7.toNat : Int)), (13, AV.int IntKind.i64 (IntKind.i64.wrap (i + 1)))], bs := [], df := [] })) none) (some (Sum.inl { fr := [(7, AV.slc x (List.map (mkV true Write_tfs) l)), (8, AV.str b), (9, AV.int IntKind.i64 (maxI n (IntKind.i64.wrap (d0.fst + (↑(List.length d1.snd) : Int))))), (10, AV.int IntKind.i64 k), (11, AV.int IntKind.u8 w), (13, AV.int IntKind.i64 (IntKind.i64.wrap (i + 1)))], bs := [], df := [] })))
          (some (Sum.inl { fr := [(7, AV.slc x (List.map (mkV true Write_tfs) l)), (8, AV.str b), (9, AV.int IntKind.i64 (maxI n (IntKind.i64.wrap (d0.fst + (↑(List.length d1.snd) : Int))))), (10, AV.int IntKind.i64 k), (11, AV.int IntKind.u8 w), (13, AV.int IntKind.i64 (IntKind.i64.wrap (i + 1)))], bs := [], df := [] })))
  (some (Sum.inr (Ex.exit 0, { fr := [(8, AV.str b), (9, AV.int IntKind.i64 n), (10, AV.int IntKind.i64 k), (11, AV.int IntKind.u8 w)], bs := [], df := [] })))
theorem fb_s_w (x : Bool) (l : List Write_T) (b : List UInt8) (n : Int) (k : Int) (w : Int) (i : Int) : fb_s x l b n k w i = fb_s_r x l b n k w i := by kernel_rfl

def fbEnd (b : List UInt8) (n k w : Int) : St := { fr := [(8, .str b), (9, .int .i64 n), (10, .int .i64 k), (11, .int .u8 w)], bs := [], df := [] }
def stepN (n : Int) (w : Write_T) : Int := maxI n (w.1 + (w.2.length : Int))
def stepW (k : Int) (v : Int) (w : Write_T) : Int := if w.1 ≤ k ∧ k < w.1 + (w.2.length : Int) then ((w.2[(k - w.1).toNat]?.getD 0).toNat : Int) else v
theorem loops4 : (loopsOf 0 (codeOf Try.prog 4)).map (·.1) = [0] := by kernel_rfl
theorem one4 : OneLoops Try.prog 4 := by unfold OneLoops; rw [loops4]; decide
theorem at4 : At 0 (codeOf Try.prog 4) 0 (.loop (bodyAt Try.prog 4 0)) := at_body one4 (by rw [loops4]; decide)
theorem fb_run (x : Bool) (l : List Write_T) (hl : l.length ≤ 1000) (hw : ∀ w ∈ l, mayB w) (b : List UInt8) (k : Int) (hk : 0 ≤ k ∧ k ≤ 24) : ∀ (j i : Nat), i + j = l.length → ∀ (n w : Int) (m : Nat), j < m →
    Runs' Try.prog cfg PK6 4 0 m (fbHd x l b n k w i) (.exit 0, fbEnd b ((l.drop i).foldl stepN n) k ((l.drop i).foldl (stepW k) w))
  | 0, i, hi, n, w, m + 1, hm => by
    refine Runs'.done (lp := LP0) LPok.none at4 ((fb_s_w x l b n k w i).trans ?_)
    unfold fb_s_r
    rw [bK_neg (by simp; omega), List.drop_of_length_le (by omega)]
    rfl
  | j + 1, i, hi, n, w, m + 1, hm => by
    have hi' : (i : Int).toNat < l.length := by omega
    have e : l.drop i = l[i] :: l.drop (i + 1) := List.drop_eq_getElem_cons (by omega)
    have hm' : mayB l[i] := hw _ (List.getElem_mem _)
    have hg : l.getD (i : Int).toNat (0, []) = l[i] := by rw [getD_at hi']; simp
    have e0 : IntKind.i64.wrap ((i : Int) + 1) = ((i + 1 : Nat) : Int) := by rw [w64 (by omega) (by omega)]; omega
    rw [e]
    simp only [List.foldl_cons]
    refine Runs'.step (lp := LP0) LPok.none at4 ((fb_s_w x l b n k w i).trans ?_) (fb_run x l hl hw b k hk j (i + 1) (by omega) (stepN n l[i]) (stepW k w l[i]) m (by omega))
    unfold fb_s_r
    rw [bK_pos (by simp; omega), e0]
    refine (oK_atD rfl (0, []) (by omega) hi').trans ?_
    refine (oK_atD rfl (0, []) (by omega) hi').trans ?_
    refine (oK_atD rfl (0, []) (by omega) hi').trans ?_
    obtain ⟨y, hy⟩ : ∃ y, l[i] = y := ⟨_, rfl⟩
    rw [hy] at hg hm'
    rw [hg, hy]
    clear hy
    obtain ⟨off, B⟩ := y
    obtain ⟨h0, h1, h2, h3⟩ := hm'
    simp only at h0 h1 h2 h3
    rw [w64 (n := off + (B.length : Int)) (by omega) (by omega)]
    refine bK_i (fun c1 => ?_) (fun c1 => ?_)
    · refine (oK_atD rfl (0, []) (by omega) hi').trans ?_
      refine (oK_atD rfl (0, []) (by omega) hi').trans ?_
      rw [hg]
      rw [w64 (n := off + (B.length : Int)) (by omega) (by omega)]
      refine bK_i (fun c2 => ?_) (fun c2 => ?_)
      · refine (oK_atD rfl (0, []) (by omega) hi').trans ?_
        refine (oK_atD rfl (0, []) (by omega) hi').trans ?_
        rw [hg, w64 (n := k - off) (by omega) (by omega)]
        rw [bK_pos (by exact decide_eq_true (by omega))]
        have hB : B[(k - off).toNat]? = some (B[(k - off).toNat]?.getD 0) := by
          have hlt : (k - off).toNat < B.length := by omega
          rw [List.getElem?_eq_getElem hlt]; rfl
        refine (oK_pos hB).trans ?_
        have : stepW k w (off, B) = ((B[(k - off).toNat]?.getD 0).toNat : Int) := if_pos ⟨c1, c2⟩
        rw [this]; rfl
      · have : stepW k w (off, B) = w := if_neg (fun hh => c2 hh.2)
        rw [this]; rfl
    · have : stepW k w (off, B) = w := if_neg (fun hh => c1 hh.1)
      rw [this]; rfl
abbrev FbD : Type := Bool × List Write_T × List UInt8 × Int × Int × Int
def fbH (d : FbD) : St := fbHd d.1 d.2.1 d.2.2.1 d.2.2.2.1 d.2.2.2.2.1 d.2.2.2.2.2 0
def fbP (d : FbD) : Prop := d.2.1.length ≤ 1000 ∧ (∀ w ∈ d.2.1, mayB w) ∧ 0 ≤ d.2.2.2.2.1 ∧ d.2.2.2.2.1 ≤ 24
/-- How long it is behind all, and which byte is there. -/
def fbN (d : FbD) : Int := d.2.1.foldl stepN d.2.2.2.1
def fbW (d : FbD) : Int := d.2.1.foldl (stepW d.2.2.2.2.1) d.2.2.2.2.2
noncomputable def fbL : LP := LP.of (D := FbD) fbH fbP fun d => .leaf (.exit 0, fbEnd d.2.2.1 (fbN d) d.2.2.2.2.1 (fbW d))
noncomputable def LPf : LPs := LPs.add LP0 4 0 fbL
theorem LPf_ok : LPok Try.prog cfg PK6 LPf 4 :=
  LPok.addH LPok.none one4 fun d h => fb_run d.1 d.2.1 h.1 h.2.1 d.2.2.1 d.2.2.2.2.1 h.2.2 d.2.1.length 0 (by omega) d.2.2.2.1 d.2.2.2.2.2 rounds (by have := h.1; simp only [rounds]; omega)
theorem fbH_inj (d d' : FbD) (h : fbH d = fbH d') : d = d' := by
  obtain ⟨x, l, b, n, k, w⟩ := d
  obtain ⟨x', l', b', n', k', w'⟩ := d'
  simp only [fbH, fbHd, St.mk.injEq, List.cons.injEq, Prod.mk.injEq, AV.slc.injEq, AV.str.injEq, AV.int.injEq, and_true, true_and] at h
  obtain ⟨⟨h1, h2⟩, h3, h4, h5, h6⟩ := h
  rw [h1, map_inj (fs := Write_tfs) rfl h2, h3, h4, h5, h6]
abbrev fileBytes_id : Nat := 4
abbrev fileBytes_sh : Shp := [none, none, none]
abbrev fileBytes_fs : List Lf := [.fs, .fl false [.fi .u8], .fi .u8]
abbrev fileBytes_rsh : Shp := [none]
abbrev fileBytes_rfs : List Lf := [.fb]
noncomputable def fileBytes_r (body : List UInt8) (picks_x : Bool) (picks : List Int) (at_ : Int) : Option Ret :=
  oK (begunS.dec [] []) fun (d0 : PUnit) =>
  bK (decide (24 < (↑body.length : Int))) (some { pan := false, res := AV.bool true, out := [], new := [] })
    (bK (decide (20 < (↑(List.map (mkV false [Lf.fi IntKind.u8]) picks).length : Int))) (some { pan := false, res := AV.bool true, out := [], new := [] })
      (oK (writesS.dec [AV.ptr 1000000 0 0 0, AV.int IntKind.i64 8] [{ v := 0, k := BK.box, fz := false, sz := 0, es := [AV.slc picks_x (List.map (mkV false [Lf.fi IntKind.u8]) picks), AV.int IntKind.i64 0] }]) fun (d1 : ((Bool × List Int) × Int) × Int) =>
        oK (allWS.dec [AV.str body, AV.slc (writesF d1.fst d1.snd).snd.fst (List.map (mkV true Write_tfs) (writesF d1.fst d1.snd).snd.snd)] []) fun (d2 : List UInt8 × Bool × List (Int × List UInt8)) =>
          bK (decide (IntKind.i64.wrap (at_.tmod 24) < (↑body.length : Int))) (bK (decide (0 ≤ IntKind.i64.wrap (at_.tmod 24))) (oK body[(IntKind.i64.wrap (at_.tmod 24)).toNat]? fun (d3 : UInt8) => oK (fbL.dec { fr := [(7, AV.slc (writesF d1.fst d1.snd).snd.fst (List.map (mkV true Write_tfs) (writesF d1.fst d1.snd).snd.snd)), (8, AV.str (allF d2.fst d2.snd.snd)), (9, AV.int IntKind.i64 (↑body.length : Int)), (10, AV.int IntKind.i64 (IntKind.i64.wrap (at_.tmod 24))), (11, AV.int IntKind.u8 (↑d3.toNat : Int)), (13, AV.int IntKind.i64 0)], bs := [], df := [] }) fun (d4 : Bool × List (Int × List UInt8) × List UInt8 × Int × Int × Int) => bK (decide ((↑d4.snd.snd.fst.length : Int) = fbN d4)) (bK (decide (fbN d4 ≤ 24)) (bK (decide (fbN d4 ≤ d4.snd.snd.snd.snd.fst)) (some { pan := false, res := AV.bool true, out := [], new := [] }) (bK (decide (0 ≤ d4.snd.snd.snd.snd.fst)) (oK d4.snd.snd.fst[d4.snd.snd.snd.snd.fst.toNat]? fun (d5 : UInt8) => some { pan := false, res := AV.bool (decide ((↑d5.toNat : Int) = fbW d4)), out := [], new := [] }) none)) (some { pan := false, res := AV.bool false, out := [], new := [] })) (some { pan := false, res := AV.bool false, out := [], new := [] })) none)
            (oK (fbL.dec { fr := [(7, AV.slc (writesF d1.fst d1.snd).snd.fst (List.map (mkV true Write_tfs) (writesF d1.fst d1.snd).snd.snd)), (8, AV.str (allF d2.fst d2.snd.snd)), (9, AV.int IntKind.i64 (↑body.length : Int)), (10, AV.int IntKind.i64 (IntKind.i64.wrap (at_.tmod 24))), (11, AV.int IntKind.u8 0), (13, AV.int IntKind.i64 0)], bs := [], df := [] }) fun (d6 : Bool × List (Int × List UInt8) × List UInt8 × Int × Int × Int) => bK (decide ((↑d6.snd.snd.fst.length : Int) = fbN d6)) (bK (decide (fbN d6 ≤ 24)) (bK (decide (fbN d6 ≤ d6.snd.snd.snd.snd.fst)) (some { pan := false, res := AV.bool true, out := [], new := [] }) (bK (decide (0 ≤ d6.snd.snd.snd.snd.fst)) (oK d6.snd.snd.fst[d6.snd.snd.snd.snd.fst.toNat]? fun (d7 : UInt8) => some { pan := false, res := AV.bool (decide ((↑d7.toNat : Int) = fbW d6)), out := [], new := [] }) none)) (some { pan := false, res := AV.bool false, out := [], new := [] })) (some { pan := false, res := AV.bool false, out := [], new := [] }))))
theorem fileBytes_w (body : List UInt8) (picks_x : Bool) (picks : List Int) (at_ : Int) : unitQ Try.prog cfg PK6 LPf true 4 (groupA fileBytes_sh (Tu.mk fileBytes_fs (body, (picks_x, picks), at_))) [] = fileBytes_r body picks_x picks at_ := by kernel_rfl

theorem fold_ok : ∀ (l : List Write_T), (∀ w ∈ l, mayB w) → ∀ b : List UInt8, l.foldl stepN (b.length : Int) = ((allB b l).length : Int) ∧ ∀ k : Nat, l.foldl (stepW k) ((b[k]?.getD 0).toNat : Int) = (((allB b l)[k]?.getD 0).toNat : Int)
  | [], _, b => ⟨rfl, fun _ => rfl⟩
  | w :: l, hw, b => by
    have hm : mayB w := hw w (by simp)
    obtain ⟨h1, h2⟩ := fold_ok l (fun x hx => hw x (by simp [hx])) (putB b w)
    have hm' : 0 ≤ w.1 ∧ 1 ≤ w.2.length ∧ w.2.length ≤ 24 ∧ w.1 ≤ 24 - (w.2.length : Int) := hm
    refine ⟨?_, fun k => ?_⟩
    · have e : stepN (b.length : Int) w = ((putB b w).length : Int) := by
        rw [putB_len hm]
        unfold stepN maxI
        split <;> omega
      show l.foldl stepN (stepN (b.length : Int) w) = _
      rw [e, h1]; rfl
    · have e : stepW k ((b[k]?.getD 0).toNat : Int) w = (((putB b w)[k]?.getD 0).toNat : Int) := by
        rw [putB_get hm]
        unfold stepW
        by_cases hk : w.1 ≤ (k : Int) ∧ (k : Int) < w.1 + (w.2.length : Int)
        · rw [if_pos hk, if_pos (by omega)]
          have : ((k : Int) - w.1).toNat = k - w.1.toNat := by omega
          rw [this]
        · rw [if_neg hk, if_neg (by omega)]
      show l.foldl (stepW k) (stepW k ((b[k]?.getD 0).toNat : Int) w) = _
      rw [e, h2]; rfl
theorem writeF_may {b : Picks_T} (h : pkOk b) : mayB (writeF b).2 := by
  have h1 := numF_lt (m := 10) h (by omega)
  have h2 := numF_lt (m := 6) (numF_ok (m := 10) h) (by omega)
  unfold writeF
  simp only
  generalize (numF (numF b 10).1 6).2 = q at h2 ⊢
  generalize (numF b 10).2 = p at h1 ⊢
  have : ∀ n : Nat, n < 6 → 1 ≤ (bodiesL.getD n []).length ∧ (bodiesL.getD n []).length ≤ 14 := by decide
  have h3 := this q.toNat (by omega)
  exact ⟨h1.1, h3.1, by show (bodiesL.getD q.toNat []).length ≤ 24; omega, by show p ≤ 24 - ((bodiesL.getD q.toNat []).length : Int); omega⟩
theorem writesN_may : ∀ (k : Nat) (b : Picks_T) (acc : List Write_T), pkOk b → (∀ w ∈ acc, mayB w) → ∀ w ∈ (writesN k b acc).2, mayB w
  | 0, b, acc, hb, ha => ha
  | k + 1, b, acc, hb, ha => writesN_may k _ _ (writeF_ok hb) (fun w hw => by
    rcases List.mem_append.1 hw with h | h
    · exact ha w h
    · rw [List.mem_singleton.1 h]; exact writeF_may hb)
theorem writesF_may {b : Picks_T} {most : Int} (h : pkOk b) : ∀ w ∈ (writesF b most).2.2, mayB w := writesN_may _ _ _ (numF_ok h) (fun w hw => by simp at hw)
theorem fb_tail (zx : Bool) (l : List Write_T) (hw : ∀ w ∈ l, mayB w) (body : List UInt8) (hb : body.length ≤ 24) (k : Nat) :
    let d : FbD := (zx, l, allF body l, (body.length : Int), (k : Int), ((body[k]?.getD 0).toNat : Int))
    Yes (bK (decide ((d.2.2.1.length : Int) = fbN d)) (bK (decide (fbN d ≤ 24)) (bK (decide (fbN d ≤ d.2.2.2.2.1)) (some { pan := false, res := AV.bool true, out := [], new := [] }) (bK (decide (0 ≤ d.2.2.2.2.1)) (oK d.2.2.1[d.2.2.2.2.1.toNat]? fun (d5 : UInt8) => some { pan := false, res := AV.bool (decide ((d5.toNat : Int) = fbW d)), out := [], new := [] }) none)) (some { pan := false, res := AV.bool false, out := [], new := [] })) (some { pan := false, res := AV.bool false, out := [], new := [] })) := by
  intro d
  obtain ⟨h1, h2⟩ := fold_ok l hw body
  have e1 : fbN d = ((allF body l).length : Int) := h1
  have e2 : fbW d = (((allF body l)[k]?.getD 0).toNat : Int) := h2 k
  have hle : (allF body l).length ≤ 24 := allB_le hb l
  rw [e1, e2]
  refine bK_tq (decide_eq_true rfl) (bK_tq (decide_eq_true (by omega)) (bK_iq (fun _ => yes_leaf) (fun c => bK_tq (decide_eq_true (show (0 : Int) ≤ k by omega)) ?_)))
  have hlt : k < (allF body l).length := by
    have : ¬ (((allF body l).length : Int) ≤ (k : Int)) := c
    omega
  have hg : (allF body l)[k]? = some ((allF body l)[k]?.getD 0) := by rw [List.getElem?_eq_getElem hlt]; rfl
  refine oK_q hg ?_
  exact yes_of (decide_eq_true rfl)
theorem fileBytes_yes (body : List UInt8) (picks_x : Bool) (picks : List Int) (at_ : Int) (h : Tu.wf fileBytes_fs (body, (picks_x, picks), at_)) : Yes (fileBytes_r body picks_x picks at_) := by
  obtain ⟨_, hp, hc⟩ := h
  have hp' := wf8 hp.2
  have hc' : (0 : Int) ≤ at_ ∧ at_ ≤ 255 := hc
  unfold fileBytes_r
  refine oK_fsq begunS () trivial ?_
  refine bK_iq (fun _ => yes_leaf) (fun c1 => ?_)
  refine bK_iq (fun _ => yes_leaf) (fun c2 => ?_)
  have hb : body.length ≤ 24 := by omega
  have hn : picks.length ≤ 20 := by simp only [List.length_map] at c2; omega
  have hk : pkOk ((picks_x, picks), 0) := ⟨Int.le_refl _, by show (0 : Int) ≤ 2 ^ 62; decide, by show picks.length ≤ 2 ^ 62; omega, hp'⟩
  refine oK_msq writesS ((picks_x, picks), 0) (8 : Int) ⟨hk, by decide, by decide⟩ ?_
  have hl := writesF_len (most := 8) hk (by decide)
  have hw := writesF_may (most := 8) hk
  generalize writesF ((picks_x, picks), 0) 8 = z at hl hw ⊢
  obtain ⟨zb, zx, l⟩ := z
  simp only at hl hw
  have hl' : l.length ≤ 1000 := by omega
  refine oK_fsq allWS (body, (zx, l)) ⟨hb, hl'⟩ ?_
  have t0 : 0 ≤ Int.tmod at_ 24 := Int.tmod_nonneg _ hc'.1
  have t1 : Int.tmod at_ 24 < 24 := Int.tmod_lt_of_pos _ (by omega)
  rw [w64 (n := Int.tmod at_ 24) (by omega) (by omega)]
  obtain ⟨k, hk'⟩ := Int.eq_ofNat_of_zero_le t0
  rw [hk'] at t0 t1 ⊢
  refine bK_iq (fun c3 => bK_tq (decide_eq_true t0) ?_) (fun c3 => ?_)
  · have hlt : k < body.length := by omega
    have hg : body[((k : Nat) : Int).toNat]? = some (body[k]?.getD 0) := by rw [Int.toNat_natCast, List.getElem?_eq_getElem hlt]; rfl
    refine oK_q hg ?_
    refine oK_lpq fbH_inj (zx, l, allF body l, (body.length : Int), (k : Int), ((body[k]?.getD 0).toNat : Int)) ⟨hl', hw, t0, by show (k : Int) ≤ 24; omega⟩ ?_
    exact fb_tail zx l hw body hb k
  · have hz : body[k]?.getD 0 = 0 := by rw [List.getElem?_eq_none (by omega)]; rfl
    have := fb_tail zx l hw body hb k
    rw [hz] at this
    refine oK_lpq fbH_inj (zx, l, allF body l, (body.length : Int), (k : Int), 0) ⟨hl', hw, t0, by show (k : Int) ≤ 24; omega⟩ ?_
    exact this

end Go.Proofs.Ytnmkpfhihjonkaa
