/- A part of the proof: contracts of functions. -/
import Derived.Test.YtihgfpggdkhhaaaH
import Derived.Test.YtihgfpggdkhhaaaAbAny

set_option linter.unusedVariables false
set_option linter.unusedSimpArgs false
set_option maxRecDepth 100000
namespace Go.Proofs.Ytihgfpggdkhhaaa
open Go Go.Ab
def btH (n : Int) (s x : State_T) (i : Int) : St := { fr := [(1, .int .u8 n), (5, .ptr 80 0 0 0), (6, .ptr 96 0 0 0), (7, .int .i64 i)], bs := [(80, boxB (Tu.mk State_tfs s)), (96, boxB (Tu.mk State_tfs x))], df := [] }
noncomputable def bt_s (n : Int) (s x : State_T) (i : Int) : Option (St ⊕ (Ex × St)) := stepK Try.prog cfg H3 LP0 8 0 (btH n s x i)
noncomputable def bt_s_r (n : Int) (s : State_T) (x : State_T) (i : Int) : Option (St ⊕ Ex × St) :=
  bK (decide (i < IntKind.i64.wrap (n.tmod 9))) (oK (bootPS.dec [AV.agg [AV.slc x.fst.fst (List.map (mkV true File_tfs) x.fst.snd), AV.slc x.snd.fst.fst (List.map (mkV true Mark_tfs) x.snd.fst.snd), AV.int IntKind.i64 x.snd.snd]] []) fun (d0 : (Bool × List (List UInt8 × Int × List UInt8)) × (Bool × List (Int × Int × Int × Int)) × Int) => some (Sum.inl { fr := [(1, AV.int IntKind.u8 n), (5, AV.ptr 80 0 0 0), (6, AV.ptr 96 0 0 0), (7, AV.int IntKind.i64 (IntKind.i64.wrap (i + 1)))], bs := [(80, { v := 0, k := BK.box, fz := false, sz := 0, es := [AV.slc s.fst.fst (List.map (mkV true File_tfs) s.fst.snd), AV.slc s.snd.fst.fst (List.map (mkV true Mark_tfs) s.snd.fst.snd), AV.int IntKind.i64 s.snd.snd] }), (96, { v := 0, k := BK.box, fz := false, sz := 0, es := [AV.slc false (List.map (mkV true File_tfs) (bootPF d0).fst.snd), AV.slc false (List.map (mkV true Mark_tfs) (bootPF d0).snd.fst.snd), AV.int IntKind.i64 (bootPF d0).snd.snd] })], df := [] }))
  (some (Sum.inr (Ex.exit 0, { fr := [(1, AV.int IntKind.u8 n), (5, AV.ptr 80 0 0 0), (6, AV.ptr 96 0 0 0)], bs := [(80, { v := 0, k := BK.box, fz := false, sz := 0, es := [AV.slc s.fst.fst (List.map (mkV true File_tfs) s.fst.snd), AV.slc s.snd.fst.fst (List.map (mkV true Mark_tfs) s.snd.fst.snd), AV.int IntKind.i64 s.snd.snd] }), (96, { v := 0, k := BK.box, fz := false, sz := 0, es := [AV.slc x.fst.fst (List.map (mkV true File_tfs) x.fst.snd), AV.slc x.snd.fst.fst (List.map (mkV true Mark_tfs) x.snd.fst.snd), AV.int IntKind.i64 x.snd.snd] })], df := [] })))
theorem bt_s_w (n : Int) (s : State_T) (x : State_T) (i : Int) : bt_s n s x i = bt_s_r n s x i := by kernel_rfl

def btI : Nat → State_T → State_T
  | 0, s => s
  | k + 1, s => btI k (bootPF s)
theorem bootPF_inv {k : Nat} {s : State_T} (hk : k ≤ 1000) (h : FsInv s.1.2 ∧ MsInv 61 s.2.1.2 ∧ 0 ≤ s.2.2 ∧ s.2.2 ≤ (k : Int)) : (FsInv (bootPF s).1.2 ∧ MsInv 61 (bootPF s).2.1.2 ∧ 0 ≤ (bootPF s).2.2 ∧ (bootPF s).2.2 ≤ ((k + 1 : Nat) : Int)) ∧ (bootPF s).2.2 = s.2.2 + 1 := by
  obtain ⟨h1, h2, h3, h4⟩ := h
  have e : (bootPF s).2.2 = s.2.2 + 1 := by
    show minI (IntKind.i64.wrap (s.2.2 + 1)) 1073741824 = _
    rw [w64 (by omega) (by omega)]
    unfold minI
    split <;> omega
  exact ⟨⟨h1, h2, by omega, by omega⟩, e⟩
theorem btI_inv : ∀ (j : Nat) {k : Nat} {s : State_T}, k + j ≤ 1000 → (FsInv s.1.2 ∧ MsInv 61 s.2.1.2 ∧ 0 ≤ s.2.2 ∧ s.2.2 ≤ (k : Int)) → (FsInv (btI j s).1.2 ∧ MsInv 61 (btI j s).2.1.2 ∧ 0 ≤ (btI j s).2.2 ∧ (btI j s).2.2 ≤ ((k + j : Nat) : Int)) ∧ (btI j s).2.2 = s.2.2 + (j : Int) ∧ (btI j s).1.2 = s.1.2 ∧ (btI j s).2.1.2 = s.2.1.2
  | 0, k, s, hk, h => ⟨h, by show s.2.2 = s.2.2 + 0; omega, rfl, rfl⟩
  | j + 1, k, s, hk, h => by
    obtain ⟨h1, h2⟩ := bootPF_inv (by omega) h
    obtain ⟨h3, h4, h5, h6⟩ := btI_inv j (k := k + 1) (s := bootPF s) (by omega) h1
    obtain ⟨p1, p2, p3, p4⟩ := h3
    exact ⟨⟨p1, p2, p3, by have : (btI (j + 1) s).2.2 = (btI j (bootPF s)).2.2 := rfl; omega⟩, by show (btI j (bootPF s)).2.2 = _; omega, h5, h6⟩
/-- Booted. -/
def btQ (n : Int) (s : State_T) : State_T := btI (IntKind.i64.wrap (n.tmod 9)).toNat s
def btE (n : Int) (s x : State_T) : Ex × St := (.exit 0, { fr := [(1, .int .u8 n), (5, .ptr 80 0 0 0), (6, .ptr 96 0 0 0)], bs := [(80, boxB (Tu.mk State_tfs s)), (96, boxB (Tu.mk State_tfs x))], df := [] })
theorem btl : (loopsOf 0 (codeOf Try.prog 8)).map (·.1) = [0] := by kernel_rfl
theorem bto : OneLoops Try.prog 8 := by unfold OneLoops; rw [btl]; decide
theorem bta : At 0 (codeOf Try.prog 8) 0 (.loop (bodyAt Try.prog 8 0)) := at_body bto (by rw [btl]; decide)
theorem n9 {n : Int} (h : 0 ≤ n ∧ n ≤ 255) : 0 ≤ IntKind.i64.wrap (n.tmod 9) ∧ IntKind.i64.wrap (n.tmod 9) ≤ 8 := by
  have := Int.tmod_nonneg 9 h.1
  have := Int.tmod_lt_of_pos n (show (0 : Int) < 9 by decide)
  rw [w64 (n := n.tmod 9) (by omega) (by omega)]
  omega
def btP (x : State_T) : Prop := x.1.2.length ≤ 100000 ∧ x.2.1.2.length ≤ 100000
theorem bt_run (n : Int) (hn : 0 ≤ n ∧ n ≤ 255) (s : State_T) : ∀ (j i : Nat), ((i + j : Nat) : Int) = IntKind.i64.wrap (n.tmod 9) → ∀ (x : State_T), sokP x → ∀ (m : Nat), j < m → Runs' Try.prog cfg H3 8 0 m (btH n s x i) (btE n s (btI j x))
  | 0, i, hi, x, hx, m + 1, hm => by
    refine Runs'.done (lp := LP0) LPok.none bta ((bt_s_w n s x i).trans ?_)
    unfold bt_s_r
    rw [bK_neg (decide_eq_false (by omega))]
    rfl
  | j + 1, i, hi, x, hx, m + 1, hm => by
    have h9 := n9 hn
    refine Runs'.step (lp := LP0) LPok.none bta ((bt_s_w n s x i).trans ?_) (bt_run n hn s j (i + 1) (by omega) (bootPF x) hx m (by omega))
    unfold bt_s_r
    rw [bK_pos (decide_eq_true (by omega))]
    refine oK_fsq (Q := fun z => z = _) bootPS x hx ?_
    rw [w64 (n := (i : Int) + 1) (by omega) (by omega)]
    rfl
abbrev BtD : Type := Int × State_T
def btHd (d : BtD) : St := btH d.1 d.2 d.2 0
noncomputable def btL : LP := LP.of btHd (fun d => (0 ≤ d.1 ∧ d.1 ≤ 255) ∧ sokP d.2) fun d => .leaf (btE d.1 d.2 (btQ d.1 d.2))
noncomputable def btLP : LPs := LPs.add LP0 8 0 btL
theorem btLP_ok : LPok Try.prog cfg H3 btLP 8 := LPok.addH LPok.none bto fun d h => by
  have := n9 h.1
  exact bt_run d.1 h.1 d.2 (IntKind.i64.wrap (d.1.tmod 9)).toNat 0 (by omega) d.2 h.2 rounds (by simp only [rounds]; omega)
theorem btHd_inj (d d' : BtD) (h : btHd d = btHd d') : d = d' := by
  obtain ⟨n, s⟩ := d
  obtain ⟨n', s'⟩ := d'
  simp only [btHd, btH, boxB, St.mk.injEq, List.cons.injEq, Prod.mk.injEq, AV.int.injEq, Blk.mk.injEq, and_true, true_and] at h
  rw [h.1, mk_inj (fs := State_tfs) rfl h.2.1]
abbrev stateBoots_id : Nat := 8
abbrev stateBoots_sh : Shp := [none, none]
abbrev stateBoots_fs : List Lf := [.fl false [.fi .u8], .fi .u8]
abbrev stateBoots_rsh : Shp := [none]
abbrev stateBoots_rfs : List Lf := [.fb]
noncomputable def stateBoots_r (picks_x : Bool) (picks : List Int) (n : Int) : Option Ret :=
  oK (begunS.dec [] []) fun (d0 : PUnit) =>
  bK (decide (60 < (↑(List.map (mkV false [Lf.fi IntKind.u8]) picks).length : Int))) (some { pan := false, res := AV.bool true, out := [], new := [] })
    (oK (statePS.dec [AV.ptr 1000000 0 0 0, AV.int IntKind.i64 25] [{ v := 0, k := BK.box, fz := false, sz := 0, es := [AV.slc picks_x (List.map (mkV false [Lf.fi IntKind.u8]) picks), AV.int IntKind.i64 0] }]) fun (d1 : ((Bool × List Int) × Int) × Int) =>
      oK (btL.dec { fr := [(1, AV.int IntKind.u8 n), (5, AV.ptr 80 0 0 0), (6, AV.ptr 96 0 0 0), (7, AV.int IntKind.i64 0)], bs := [(80, { v := 0, k := BK.box, fz := false, sz := 0, es := [AV.slc (stR (d1.fst, d1.snd)).snd.fst.fst (List.map (mkV true File_tfs) (stR (d1.fst, d1.snd)).snd.fst.snd), AV.slc (stR (d1.fst, d1.snd)).snd.snd.fst.fst (List.map (mkV true Mark_tfs) (stR (d1.fst, d1.snd)).snd.snd.fst.snd), AV.int IntKind.i64 (stR (d1.fst, d1.snd)).snd.snd.snd] }), (96, { v := 0, k := BK.box, fz := false, sz := 0, es := [AV.slc (stR (d1.fst, d1.snd)).snd.fst.fst (List.map (mkV true File_tfs) (stR (d1.fst, d1.snd)).snd.fst.snd), AV.slc (stR (d1.fst, d1.snd)).snd.snd.fst.fst (List.map (mkV true Mark_tfs) (stR (d1.fst, d1.snd)).snd.snd.fst.snd), AV.int IntKind.i64 (stR (d1.fst, d1.snd)).snd.snd.snd] })], df := [] }) fun (d2 : Int × (Bool × List (List UInt8 × Int × List UInt8)) × (Bool × List (Int × Int × Int × Int)) × Int) =>
        bK (!decide ((btQ d2.fst d2.snd).snd.snd = IntKind.i64.wrap (d2.snd.snd.snd + IntKind.i64.wrap (d2.fst.tmod 9)))) (some { pan := false, res := AV.bool false, out := [], new := [] })
          (oK (mayPS.dec [AV.agg [AV.slc (btQ d2.fst d2.snd).fst.fst (List.map (mkV true File_tfs) (btQ d2.fst d2.snd).fst.snd), AV.slc (btQ d2.fst d2.snd).snd.fst.fst (List.map (mkV true Mark_tfs) (btQ d2.fst d2.snd).snd.fst.snd), AV.int IntKind.i64 (btQ d2.fst d2.snd).snd.snd]] []) fun (d3 : (Bool × List (List UInt8 × Int × List UInt8)) × (Bool × List (Int × Int × Int × Int)) × Int) =>
            bK (!mayQ d3) (some { pan := false, res := AV.bool false, out := [], new := [] }) (oK (samePS.dec [AV.agg [AV.slc (btQ d2.fst d2.snd).fst.fst (List.map (mkV true File_tfs) (btQ d2.fst d2.snd).fst.snd), AV.slc (btQ d2.fst d2.snd).snd.fst.fst (List.map (mkV true Mark_tfs) (btQ d2.fst d2.snd).snd.fst.snd), AV.int IntKind.i64 d2.snd.snd.snd], AV.agg [AV.slc d2.snd.fst.fst (List.map (mkV true File_tfs) d2.snd.fst.snd), AV.slc d2.snd.snd.fst.fst (List.map (mkV true Mark_tfs) d2.snd.snd.fst.snd), AV.int IntKind.i64 d2.snd.snd.snd]] []) fun (d4 : (Bool × List (List UInt8 × Int × List UInt8)) × (Bool × List (Int × Int × Int × Int)) × Int × (Bool × List (List UInt8 × Int × List UInt8)) × (Bool × List (Int × Int × Int × Int)) × Int) => bK (stEqQ (sa d4) (sb d4)) (oK (bootPS.dec [AV.agg [AV.slc d2.snd.fst.fst (List.map (mkV true File_tfs) d2.snd.fst.snd), AV.slc d2.snd.snd.fst.fst (List.map (mkV true Mark_tfs) d2.snd.snd.fst.snd), AV.int IntKind.i64 1073741824]] []) fun (d5 : (Bool × List (List UInt8 × Int × List UInt8)) × (Bool × List (Int × Int × Int × Int)) × Int) => some { pan := false, res := AV.bool (decide ((bootPF d5).snd.snd = 1073741824)), out := [], new := [] }) (some { pan := false, res := AV.bool false, out := [], new := [] }))))
theorem stateBoots_w (picks_x : Bool) (picks : List Int) (n : Int) : unitQ Try.prog cfg H3 btLP true 8 (groupA stateBoots_sh (Tu.mk stateBoots_fs ((picks_x, picks), n))) [] = stateBoots_r picks_x picks n := by kernel_rfl

theorem stateBoots_yes (picks_x : Bool) (picks : List Int) (n : Int) (h : Tu.wf stateBoots_fs ((picks_x, picks), n)) : Yes (stateBoots_r picks_x picks n) := by
  unfold stateBoots_r
  refine oK_fsq begunS () trivial ?_
  refine bK_iq (fun _ => yes_leaf) (fun h1 => ?_)
  rw [List.length_map] at h1
  obtain ⟨⟨_, w1⟩, w2⟩ := h
  have w2' : (0 : Int) ≤ n ∧ n ≤ 255 := w2
  have hp1 : pkOk ((picks_x, picks), 0) := picks_ok (by omega) w1
  have hsp : stP (((picks_x, picks), 0), 25) := ⟨hp1, by show (0 : Int) ≤ 25; decide, by show (25 : Int) ≤ 30; decide⟩
  refine oK_msq statePS ((picks_x, picks), (0 : Int)) (25 : Int) hsp ?_
  have hst := (stR_spec _ hsp).1.2
  dsimp only
  generalize stR (((picks_x, picks), 0), 25) = z at hst ⊢
  obtain ⟨zb, s⟩ := z
  dsimp only at hst ⊢
  have hsP := sokP_of hst
  refine oK_lpq btHd_inj (n, s) ⟨w2', hsP⟩ ?_
  dsimp only
  have h9 := n9 w2'
  have hI : FsInv s.1.2 ∧ MsInv 61 s.2.1.2 ∧ 0 ≤ s.2.2 ∧ s.2.2 ≤ ((30 : Nat) : Int) := hst
  obtain ⟨⟨b1, b2, b3, b4⟩, b5, b6, b7⟩ := btI_inv (IntKind.i64.wrap (n.tmod 9)).toNat (k := 30) (by omega) hI
  have e : btQ n s = btI (IntKind.i64.wrap (n.tmod 9)).toNat s := rfl
  rw [← e] at b1 b2 b3 b4 b5 b6 b7
  obtain ⟨i1, i2, i3, i4⟩ := hI
  have l1 : (btQ n s).1.2.length = 6 := b1.1
  have l2 : (btQ n s).2.1.2.length = 3 := b2.1
  generalize btQ n s = x at b1 b2 b3 b4 b5 b6 b7 l1 l2 ⊢
  refine bK_fq (by rw [w64 (n := s.2.2 + _) (by omega) (by omega), decide_eq_true (show x.2.2 = s.2.2 + IntKind.i64.wrap (n.tmod 9) by omega)]; rfl) ?_
  refine oK_fsq mayPS x (mayPre b1 b2) ?_
  refine bK_fq (by rw [mayQ_of b1 (by decide) b2 b3 (by omega)]; rfl) ?_
  refine oK_fsq samePS (x.1, x.2.1, s.2.2, s.1, s.2.1, s.2.2) ⟨by show x.1.2.length ≤ 100000; omega, by show x.2.1.2.length ≤ 100000; omega⟩ ?_
  refine bK_tq (decide_eq_true ⟨b6, b7, rfl⟩) ?_
  refine oK_fsq bootPS (s.1, s.2.1, (1073741824 : Int)) hsP ?_
  exact yes_of (decide_eq_true rfl)

end Go.Proofs.Ytihgfpggdkhhaaa
