/- A part of the proof: contracts of functions. -/
import Derived.Test.YtmjgiplgghmapaaC
import Derived.Test.YtmjgiplgghmapaaAbAny

set_option linter.unusedVariables false
set_option linter.unusedSimpArgs false
set_option maxRecDepth 100000
namespace Go.Proofs.Ytmjgiplgghmapaa
open Go Go.Ab
set_option maxHeartbeats 8000000
noncomputable def Np1 : PKs := PKs0.add 32 nmP
noncomputable def Np2 : PKs := Np1.add 33 stP
theorem Np1_ok : PKsOk Try.prog Np1 := PKsOk.any PKs0_ok 32 nmA nmPre nmR nmOk
theorem Np2_ok : PKsOk Try.prog Np2 := PKsOk.any Np1_ok 33 nmA stPre stR stOk
def nxh (x : Bool) (b : List Int) : St := { fr := [(0, .ptr 1000000 0 0 0), (2, .ptr 32 0 0 0), (3, .ptr 48 0 0 0)], bs := [(32, boxB [.int .i64 0, .int .i64 0, .int .i64 0, .int .i64 0, .int .i64 0, .int .i64 0, .int .i64 0, .str [], .slc true []]), (48, boxB [.bool false]), (1000000, boxB [.slc x (b.map (mkV false [.fi .u8]))])], df := [(.fn 31 [] [.ptr 32 0 0 0, .ptr 48 0 0 0], [])] }
noncomputable def nx_s (x : Bool) (b : List Int) : Option (St ⊕ (Ex × St)) := stepK Try.prog cfg Np2 LP0 24 0 (nxh x b)
noncomputable def nx_s_r (x : Bool) (b : List Int) : Option (St ⊕ Ex × St) :=
  oK (nmP.dec [AV.ptr 1000000 0 0 0, AV.int IntKind.i64 1] [{ v := 0, k := BK.box, fz := false, sz := 0, es := [AV.slc x (List.map (mkV false [Lf.fi IntKind.u8]) b)] }]) fun (d0 : (Bool × List Int) × Int) =>
  bK (nmO d0)
    (bK (decide (0 < (nmV d0).tmod 15))
      (oK (stP.dec [AV.ptr 1000000 0 0 0, AV.int IntKind.i64 ((nmV d0).tmod 15)] [{ v := 0, k := BK.box, fz := false, sz := 0, es := [AV.slc d0.fst.fst (List.map (mkV false [Lf.fi IntKind.u8]) (nmB d0))] }]) fun (d1 : (Bool × List Int) × Int) =>
        bK (stO d1) (some (Sum.inr (Ex.ret, { fr := [(2, AV.ptr 32 0 0 0), (3, AV.ptr 48 0 0 0)], bs := [(32, { v := 0, k := BK.box, fz := false, sz := 0, es := [AV.int IntKind.i64 (stS d1).fst, AV.int IntKind.i64 (stS d1).snd.fst, AV.int IntKind.i64 (stS d1).snd.snd.fst, AV.int IntKind.i64 (stS d1).snd.snd.snd.fst, AV.int IntKind.i64 (stS d1).snd.snd.snd.snd.fst, AV.int IntKind.i64 (stS d1).snd.snd.snd.snd.snd.fst, AV.int IntKind.i64 (stS d1).snd.snd.snd.snd.snd.snd.fst, AV.str (stS d1).snd.snd.snd.snd.snd.snd.snd.fst, AV.slc (stS d1).snd.snd.snd.snd.snd.snd.snd.snd.fst (List.map (mkV false [Lf.fi IntKind.i64]) (stS d1).snd.snd.snd.snd.snd.snd.snd.snd.snd)] }), (48, { v := 0, k := BK.box, fz := false, sz := 0, es := [AV.bool true] }), (1000000, { v := 0, k := BK.box, fz := false, sz := 0, es := [AV.slc d1.fst.fst (List.map (mkV false [Lf.fi IntKind.u8]) (stB d1))] })], df := [(AV.fn 31 [] [AV.ptr 32 0 0 0, AV.ptr 48 0 0 0], [])] })))
          (some (Sum.inr (Ex.pan (AV.iface 93 (AV.agg [])), { fr := [(12, AV.int IntKind.i64 ((nmV d0).tmod 15)), (11, AV.ptr 1000000 0 0 0), (10, AV.bool true), (9, AV.int IntKind.i64 ((nmV d0).tmod 15)), (4, AV.int IntKind.i64 ((nmV d0).tmod 15)), (8, AV.int IntKind.i64 ((nmV d0).tmod 15)), (7, AV.int IntKind.i64 (nmV d0)), (6, AV.ptr 1000000 0 0 0), (0, AV.ptr 1000000 0 0 0), (2, AV.ptr 32 0 0 0), (3, AV.ptr 48 0 0 0)], bs := [(1000000, { v := 0, k := BK.box, fz := false, sz := 0, es := [AV.slc d1.fst.fst (List.map (mkV false [Lf.fi IntKind.u8]) (stB d1))] }), (1000000, { v := 0, k := BK.box, fz := false, sz := 0, es := [AV.slc d0.fst.fst (List.map (mkV false [Lf.fi IntKind.u8]) (nmB d0))] }), (32, { v := 0, k := BK.box, fz := false, sz := 0, es := [AV.int IntKind.i64 0, AV.int IntKind.i64 0, AV.int IntKind.i64 0, AV.int IntKind.i64 0, AV.int IntKind.i64 0, AV.int IntKind.i64 0, AV.int IntKind.i64 0, AV.str [], AV.slc true []] }), (48, { v := 0, k := BK.box, fz := false, sz := 0, es := [AV.bool false] }), (1000000, { v := 0, k := BK.box, fz := false, sz := 0, es := [AV.slc x (List.map (mkV false [Lf.fi IntKind.u8]) b)] })], df := [(AV.fn 31 [] [AV.ptr 32 0 0 0, AV.ptr 48 0 0 0], [])] }))))
      (some (Sum.inl { fr := [(0, AV.ptr 1000000 0 0 0), (2, AV.ptr 32 0 0 0), (3, AV.ptr 48 0 0 0)], bs := [(32, { v := 0, k := BK.box, fz := false, sz := 0, es := [AV.int IntKind.i64 0, AV.int IntKind.i64 0, AV.int IntKind.i64 0, AV.int IntKind.i64 0, AV.int IntKind.i64 0, AV.int IntKind.i64 0, AV.int IntKind.i64 0, AV.str [], AV.slc true []] }), (48, { v := 0, k := BK.box, fz := false, sz := 0, es := [AV.bool false] }), (1000000, { v := 0, k := BK.box, fz := false, sz := 0, es := [AV.slc d0.fst.fst (List.map (mkV false [Lf.fi IntKind.u8]) (nmB d0))] })], df := [(AV.fn 31 [] [AV.ptr 32 0 0 0, AV.ptr 48 0 0 0], [])] })))
    (some (Sum.inr (Ex.pan (AV.iface 93 (AV.agg [])), { fr := [(6, AV.ptr 1000000 0 0 0), (0, AV.ptr 1000000 0 0 0), (2, AV.ptr 32 0 0 0), (3, AV.ptr 48 0 0 0)], bs := [(1000000, { v := 0, k := BK.box, fz := false, sz := 0, es := [AV.slc d0.fst.fst (List.map (mkV false [Lf.fi IntKind.u8]) d0.fst.snd)] }), (32, { v := 0, k := BK.box, fz := false, sz := 0, es := [AV.int IntKind.i64 0, AV.int IntKind.i64 0, AV.int IntKind.i64 0, AV.int IntKind.i64 0, AV.int IntKind.i64 0, AV.int IntKind.i64 0, AV.int IntKind.i64 0, AV.str [], AV.slc true []] }), (48, { v := 0, k := BK.box, fz := false, sz := 0, es := [AV.bool false] }), (1000000, { v := 0, k := BK.box, fz := false, sz := 0, es := [AV.slc x (List.map (mkV false [Lf.fi IntKind.u8]) b)] })], df := [(AV.fn 31 [] [AV.ptr 32 0 0 0, AV.ptr 48 0 0 0], [])] })))
theorem nx_s_w (x : Bool) (b : List Int) : nx_s x b = nx_s_r x b := by kernel_rfl

/-- What is left when noughts are passed. -/
def nxD : List Int → List Int
  | [] => []
  | a :: r => if 0 < a.tmod 15 then a :: r else nxD r
def nxN (b : List Int) : Bool := (nxD b).isEmpty
def nxA (b : List Int) : Int := (nxD b).headD 0
def nxR (b : List Int) : List Int := (nxD b).tail
abbrev zStep : List AV := [.int .i64 0, .int .i64 0, .int .i64 0, .int .i64 0, .int .i64 0, .int .i64 0, .int .i64 0, .str [], .slc true []]
def nxB (x : Bool) (b : List Int) : Blk := boxB [.slc x (b.map (mkV false [.fi .u8]))]
def nx1 (x : Bool) : St := { fr := [(6, .ptr 1000000 0 0 0), (0, .ptr 1000000 0 0 0), (2, .ptr 32 0 0 0), (3, .ptr 48 0 0 0)], bs := [(1000000, nxB x []), (32, boxB zStep), (48, boxB [.bool false]), (1000000, nxB x [])], df := [(.fn 31 [] [.ptr 32 0 0 0, .ptr 48 0 0 0], [])] }
def nx2 (x : Bool) (s : Step_T) (b : List Int) : St := { fr := [(2, .ptr 32 0 0 0), (3, .ptr 48 0 0 0)], bs := [(32, boxB (Tu.mk Step_tfs s)), (48, boxB [.bool true]), (1000000, nxB x b)], df := [(.fn 31 [] [.ptr 32 0 0 0, .ptr 48 0 0 0], [])] }
def nx3 (x : Bool) (a : Int) (r c : List Int) : St := { fr := [(12, .int .i64 (a.tmod 15)), (11, .ptr 1000000 0 0 0), (10, .bool true), (9, .int .i64 (a.tmod 15)), (4, .int .i64 (a.tmod 15)), (8, .int .i64 (a.tmod 15)), (7, .int .i64 a), (6, .ptr 1000000 0 0 0), (0, .ptr 1000000 0 0 0), (2, .ptr 32 0 0 0), (3, .ptr 48 0 0 0)], bs := [(1000000, nxB x c), (1000000, nxB x r), (32, boxB zStep), (48, boxB [.bool false]), (1000000, nxB x (a :: r))], df := [(.fn 31 [] [.ptr 32 0 0 0, .ptr 48 0 0 0], [])] }
def nxE (x : Bool) (b : List Int) : Ex × St := if nxN b = true then (.pan (.iface 93 (.agg [])), nx1 x) else if stO ((x, nxR b), (nxA b).tmod 15) = true then (.ret, nx2 x (stS ((x, nxR b), (nxA b).tmod 15)) (stB ((x, nxR b), (nxA b).tmod 15))) else (.pan (.iface 93 (.agg [])), nx3 x (nxA b) (nxR b) (stB ((x, nxR b), (nxA b).tmod 15)))
theorem gl24 : (loopsOf 0 (codeOf Try.prog 24)).map (·.1) = [0] := by kernel_rfl
theorem go24 : OneLoops Try.prog 24 := by unfold OneLoops; rw [gl24]; decide
theorem ga24 : At 0 (codeOf Try.prog 24) 0 (.loop (bodyAt Try.prog 24 0)) := at_body go24 (by rw [gl24]; decide)
theorem nm_one (x : Bool) (a : Int) (r : List Int) : nmO ((x, a :: r), 1) = true ∧ nmV ((x, a :: r), 1) = a ∧ nmB ((x, a :: r), 1) = r := by
  refine ⟨decide_eq_true (by show (1 : Int) ≤ ((r.length + 1 : Nat) : Int); omega), ?_, rfl⟩
  show 0 * 256 + a = a
  omega
theorem nx_run (x : Bool) : ∀ (b : List Int), byt b → ∀ (fu : Nat), b.length < fu → Runs' Try.prog cfg Np2 24 0 fu (nxh x b) (nxE x b)
  | [], hb, fu + 1, hf => by
    refine Runs'.done (lp := LP0) LPok.none ga24 ((nx_s_w x []).trans ?_)
    unfold nx_s_r
    refine oK_pkq (Q := fun z => z = _) nmA_inj ((x, []), 1) ⟨⟨show (1 : Int) ≤ 1 by decide, show (1 : Int) ≤ 7 by decide⟩, hb⟩ ?_
    exact bK_fq (Q := fun z => z = _) rfl rfl
  | a :: r, hb, fu + 1, hf => by
    obtain ⟨m1, m2, m3⟩ := nm_one x a r
    have hr : byt r := fun v hv => hb v (List.mem_cons_of_mem _ hv)
    have hs : nx_s x (a :: r) = nx_s_r x (a :: r) := nx_s_w x (a :: r)
    by_cases hk : 0 < a.tmod 15
    · have e : nxD (a :: r) = a :: r := if_pos hk
      have eE : nxE x (a :: r) = if stO ((x, r), a.tmod 15) = true then (.ret, nx2 x (stS ((x, r), a.tmod 15)) (stB ((x, r), a.tmod 15))) else (.pan (.iface 93 (.agg [])), nx3 x a r (stB ((x, r), a.tmod 15))) := by
        unfold nxE nxN nxA nxR
        rw [e]
        rfl
      rw [eE]
      refine Runs'.done (lp := LP0) LPok.none ga24 (hs.trans ?_)
      unfold nx_s_r
      refine oK_pkq (Q := fun z => z = _) nmA_inj ((x, a :: r), 1) ⟨⟨show (1 : Int) ≤ 1 by decide, show (1 : Int) ≤ 7 by decide⟩, hb⟩ ?_
      dsimp only
      rw [m1, m2, m3]
      refine bK_tq (Q := fun z => z = _) rfl (bK_tq (Q := fun z => z = _) (decide_eq_true hk) ?_)
      refine oK_pkq (Q := fun z => z = _) nmA_inj ((x, r), a.tmod 15) (pre := stPre) hr ?_
      dsimp only
      by_cases ho : stO ((x, r), a.tmod 15) = true
      · rw [if_pos ho]
        exact bK_tq (Q := fun z => z = _) ho rfl
      · rw [if_neg ho]
        exact bK_fq (Q := fun z => z = _) (by simpa using ho) rfl
    · have e : nxD (a :: r) = nxD r := if_neg hk
      have ee : nxE x (a :: r) = nxE x r := by unfold nxE nxN nxA nxR; rw [e]
      rw [ee]
      refine Runs'.step (lp := LP0) LPok.none ga24 (hs.trans ?_) (nx_run x r hr fu (by simp only [List.length_cons] at hf; omega))
      unfold nx_s_r
      refine oK_pkq (Q := fun z => z = _) nmA_inj ((x, a :: r), 1) ⟨⟨show (1 : Int) ≤ 1 by decide, show (1 : Int) ≤ 7 by decide⟩, hb⟩ ?_
      dsimp only
      rw [m1, m2, m3]
      exact bK_tq (Q := fun z => z = _) rfl (bK_fq (Q := fun z => z = _) (decide_eq_false hk) rfl)
def nxHd (d : Bool × List Int) : St := nxh d.1 d.2
theorem nxHd_inj (d d' : Bool × List Int) (h : nxHd d = nxHd d') : d = d' := by
  obtain ⟨x, b⟩ := d
  obtain ⟨x', b'⟩ := d'
  simp only [nxHd, nxh, boxB, St.mk.injEq, List.cons.injEq, Prod.mk.injEq, AV.slc.injEq, Blk.mk.injEq, and_true, true_and] at h
  rw [h.1, map_inj (fs := [.fi .u8]) rfl h.2]
def nxPre (d : Bool × List Int) : Prop := byt d.2 ∧ d.2.length ≤ 100000
noncomputable def nxL : LP := LP.of nxHd nxPre fun d => .ite (nxN d.2) (.leaf (.pan (.iface 93 (.agg [])), nx1 d.1)) (.ite (stO ((d.1, nxR d.2), (nxA d.2).tmod 15)) (.leaf (.ret, nx2 d.1 (stS ((d.1, nxR d.2), (nxA d.2).tmod 15)) (stB ((d.1, nxR d.2), (nxA d.2).tmod 15)))) (.leaf (.pan (.iface 93 (.agg [])), nx3 d.1 (nxA d.2) (nxR d.2) (stB ((d.1, nxR d.2), (nxA d.2).tmod 15)))))
noncomputable def nxP : LPs := LPs.add LP0 24 0 nxL
theorem nxP_ok : LPok Try.prog cfg Np2 nxP 24 := LPok.addH LPok.none go24 (by
  rintro ⟨x, b⟩ ⟨h1, h2⟩
  have hr := nx_run x b h1 rounds (by have h2 : b.length ≤ 100000 := h2; simp only [rounds]; omega)
  refine cast ?_ hr
  congr 1)
abbrev nxt_id : Nat := 24
abbrev nxt_sh : Shp := []
abbrev nxt_fs : List Lf := []
abbrev nxt_bs : List Lf := [.fl false [.fi .u8]]
abbrev nxt_rsh : Shp := [some 9, none]
abbrev nxt_rfs : List Lf := [.fi .i64, .fi .i64, .fi .i64, .fi .i64, .fi .i64, .fi .i64, .fi .i64, .fs, .fl false [.fi .i64], .fb]
noncomputable def nxt_r (r_b_x : Bool) (r_b : List Int) : Option Ret :=
  oK (nxL.dec { fr := [(0, AV.ptr 1000000 0 0 0), (2, AV.ptr 32 0 0 0), (3, AV.ptr 48 0 0 0)], bs := [(32, { v := 0, k := BK.box, fz := false, sz := 0, es := [AV.int IntKind.i64 0, AV.int IntKind.i64 0, AV.int IntKind.i64 0, AV.int IntKind.i64 0, AV.int IntKind.i64 0, AV.int IntKind.i64 0, AV.int IntKind.i64 0, AV.str [], AV.slc true []] }), (48, { v := 0, k := BK.box, fz := false, sz := 0, es := [AV.bool false] }), (1000000, { v := 0, k := BK.box, fz := false, sz := 0, es := [AV.slc r_b_x (List.map (mkV false [Lf.fi IntKind.u8]) r_b)] })], df := [(AV.fn 31 [] [AV.ptr 32 0 0 0, AV.ptr 48 0 0 0], [])] }) fun (d0 : Bool × List Int) =>
  bK (nxN d0.snd) (some { pan := false, res := AV.tup [AV.agg [AV.int IntKind.i64 0, AV.int IntKind.i64 0, AV.int IntKind.i64 0, AV.int IntKind.i64 0, AV.int IntKind.i64 0, AV.int IntKind.i64 0, AV.int IntKind.i64 0, AV.str [], AV.slc true []], AV.bool false], out := [{ v := 0, k := BK.box, fz := false, sz := 0, es := [AV.slc d0.fst []] }], new := [] })
    (bK (stO ((d0.fst, nxR d0.snd), (nxA d0.snd).tmod 15)) (some { pan := false, res := AV.tup [AV.agg [AV.int IntKind.i64 (stS ((d0.fst, nxR d0.snd), (nxA d0.snd).tmod 15)).fst, AV.int IntKind.i64 (stS ((d0.fst, nxR d0.snd), (nxA d0.snd).tmod 15)).snd.fst, AV.int IntKind.i64 (stS ((d0.fst, nxR d0.snd), (nxA d0.snd).tmod 15)).snd.snd.fst, AV.int IntKind.i64 (stS ((d0.fst, nxR d0.snd), (nxA d0.snd).tmod 15)).snd.snd.snd.fst, AV.int IntKind.i64 (stS ((d0.fst, nxR d0.snd), (nxA d0.snd).tmod 15)).snd.snd.snd.snd.fst, AV.int IntKind.i64 (stS ((d0.fst, nxR d0.snd), (nxA d0.snd).tmod 15)).snd.snd.snd.snd.snd.fst, AV.int IntKind.i64 (stS ((d0.fst, nxR d0.snd), (nxA d0.snd).tmod 15)).snd.snd.snd.snd.snd.snd.fst, AV.str (stS ((d0.fst, nxR d0.snd), (nxA d0.snd).tmod 15)).snd.snd.snd.snd.snd.snd.snd.fst, AV.slc (stS ((d0.fst, nxR d0.snd), (nxA d0.snd).tmod 15)).snd.snd.snd.snd.snd.snd.snd.snd.fst (List.map (mkV false [Lf.fi IntKind.i64]) (stS ((d0.fst, nxR d0.snd), (nxA d0.snd).tmod 15)).snd.snd.snd.snd.snd.snd.snd.snd.snd)], AV.bool true], out := [{ v := 0, k := BK.box, fz := false, sz := 0, es := [AV.slc d0.fst (List.map (mkV false [Lf.fi IntKind.u8]) (stB ((d0.fst, nxR d0.snd), (nxA d0.snd).tmod 15)))] }], new := [] })
      (some { pan := false, res := AV.tup [AV.agg [AV.int IntKind.i64 0, AV.int IntKind.i64 0, AV.int IntKind.i64 0, AV.int IntKind.i64 0, AV.int IntKind.i64 0, AV.int IntKind.i64 0, AV.int IntKind.i64 0, AV.str [], AV.slc true []], AV.bool false], out := [{ v := 0, k := BK.box, fz := false, sz := 0, es := [AV.slc d0.fst (List.map (mkV false [Lf.fi IntKind.u8]) (stB ((d0.fst, nxR d0.snd), (nxA d0.snd).tmod 15)))] }], new := [] }))
theorem nxt_w (r_b_x : Bool) (r_b : List Int) : unitQ Try.prog cfg Np2 nxP false 24 (.ptr outBase 0 0 0 :: groupA nxt_sh (Tu.mk nxt_fs ())) [boxB (Tu.mk nxt_bs (r_b_x, r_b))] = nxt_r r_b_x r_b := by kernel_rfl

end Go.Proofs.Ytmjgiplgghmapaa
