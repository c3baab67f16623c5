/- A part of the proof: contracts of functions. -/
import Derived.Test.YtbfiepkelafgeaaD
import Derived.Test.YtbfiepkelafgeaaAbCl

set_option linter.unusedVariables false
set_option linter.unusedSimpArgs false
set_option maxRecDepth 100000
namespace Go.Proofs.Ytbfiepkelafgeaa
open Go Go.Ab
def fOf (l : List (List UInt8)) : List File_T := l.map fun s => (s, 0, [])
abbrev FaC : Type := List UInt8 × Int × Bool × List (List UInt8) × State_T
def faHd0 (d : FaC) (i : Int) : St := { fr := [(1, .str d.1), (2, .int .u8 d.2.1), (3, .slc d.2.2.1 (d.2.2.2.1.map (mkV false [Lf.fs]))), (9, .ptr 144 0 0 0), (10, .slc true []), (11, .int .i64 i)], bs := [(144, boxB (Tu.mk State_tfs d.2.2.2.2))], df := [] }
def faHd1 (d : FaC) (a : List File_T) (i : Int) : St := { fr := [(1, .str d.1), (2, .int .u8 d.2.1), (3, .slc d.2.2.1 (d.2.2.2.1.map (mkV false [Lf.fs]))), (9, .ptr 144 0 0 0), (10, .sref 976 0 0 a.length), (11, .int .i64 i)], bs := [(144, boxB (Tu.mk State_tfs d.2.2.2.2)), (976, { v := 0, k := .row, fz := false, sz := 3, es := a.map (mkV true File_tfs) })], df := [] }
noncomputable def fa_0 (nm : List UInt8) (w : Int) (x : Bool) (l : List (List UInt8)) (s : State_T) (i : Int) : Option (St ⊕ (Ex × St)) := stepK Try.prog cfg D8PK4 LP0 3 0 (faHd0 (nm, w, x, l, s) i)
noncomputable def fa_0_r (nm : List UInt8) (w : Int) (x : Bool) (l : List (List UInt8)) (s : State_T) (i : Int) : Option (St ⊕ Ex × St) :=
  bK (decide (i < (↑(List.map (mkV false [Lf.fs]) l).length : Int))) (oK (elemAt false [Lf.fs] (List.map (mkV false [Lf.fs]) l) i) fun (d0 : List UInt8) => bK (decide (30 < (↑d0.length : Int))) (some (Sum.inr (Ex.ret, { fr := [(1, AV.str nm), (2, AV.int IntKind.u8 w), (8, AV.bool true), (9, AV.ptr 144 0 0 0), (10, AV.slc true [])], bs := [(144, { v := 0, k := BK.box, fz := false, sz := 0, es := [AV.slc s.fst.fst (List.map (mkV true File_tfs) s.fst.snd), AV.slc s.snd.fst.fst (List.map (mkV true Mark_tfs) s.snd.fst.snd), AV.int IntKind.i64 s.snd.snd] })], df := [] }))) (oK (elemAt false [Lf.fs] (List.map (mkV false [Lf.fs]) l) i) fun (d1 : List UInt8) => some (Sum.inl { fr := [(1, AV.str nm), (2, AV.int IntKind.u8 w), (3, AV.slc x (List.map (mkV false [Lf.fs]) l)), (9, AV.ptr 144 0 0 0), (10, AV.sref 976 0 0 1), (11, AV.int IntKind.i64 (IntKind.i64.wrap (i + 1)))], bs := [(144, { v := 0, k := BK.box, fz := false, sz := 0, es := [AV.slc s.fst.fst (List.map (mkV true File_tfs) s.fst.snd), AV.slc s.snd.fst.fst (List.map (mkV true Mark_tfs) s.snd.fst.snd), AV.int IntKind.i64 s.snd.snd] }), (976, { v := 0, k := BK.row, fz := false, sz := 3, es := [AV.agg [AV.str d1, AV.int IntKind.i64 0, AV.str []]] })], df := [] })))
  (some (Sum.inr (Ex.exit 0, { fr := [(1, AV.str nm), (2, AV.int IntKind.u8 w), (9, AV.ptr 144 0 0 0), (10, AV.slc true [])], bs := [(144, { v := 0, k := BK.box, fz := false, sz := 0, es := [AV.slc s.fst.fst (List.map (mkV true File_tfs) s.fst.snd), AV.slc s.snd.fst.fst (List.map (mkV true Mark_tfs) s.snd.fst.snd), AV.int IntKind.i64 s.snd.snd] })], df := [] })))
theorem fa_0_w (nm : List UInt8) (w : Int) (x : Bool) (l : List (List UInt8)) (s : State_T) (i : Int) : fa_0 nm w x l s i = fa_0_r nm w x l s i := by kernel_rfl

noncomputable def fa_1 (nm : List UInt8) (w : Int) (x : Bool) (l : List (List UInt8)) (s : State_T) (a : List File_T) (i : Int) : Option (St ⊕ (Ex × St)) := stepK Try.prog cfg D8PK4 LP0 3 0 (faHd1 (nm, w, x, l, s) a i)
noncomputable def fa_1_r (nm : List UInt8) (w : Int) (x : Bool) (l : List (List UInt8)) (s : State_T) (a : List File_T) (i : Int) : Option (St ⊕ Ex × St) :=
  bK (decide (i < (↑(List.map (mkV false [Lf.fs]) l).length : Int)))
  (oK (elemAt false [Lf.fs] (List.map (mkV false [Lf.fs]) l) i) fun (d0 : List UInt8) =>
    bK (decide (30 < (↑d0.length : Int))) (some (Sum.inr (Ex.ret, { fr := [(1, AV.str nm), (2, AV.int IntKind.u8 w), (8, AV.bool true), (9, AV.ptr 144 0 0 0), (10, AV.sref 976 0 0 a.length)], bs := [(144, { v := 0, k := BK.box, fz := false, sz := 0, es := [AV.slc s.fst.fst (List.map (mkV true File_tfs) s.fst.snd), AV.slc s.snd.fst.fst (List.map (mkV true Mark_tfs) s.snd.fst.snd), AV.int IntKind.i64 s.snd.snd] }), (976, { v := 0, k := BK.row, fz := false, sz := 3, es := List.map (mkV true File_tfs) a })], df := [] }))) (oK (elemAt false [Lf.fs] (List.map (mkV false [Lf.fs]) l) i) fun (d1 : List UInt8) => bK (decide (0 + a.length ≤ (List.map (mkV true File_tfs) a).length)) (bK (decide (0 = 0 ∧ a.length = (List.map (mkV true File_tfs) a).length) && bytesFit Try.prog 33 (a.length + 1)) (some (Sum.inl { fr := [(1, AV.str nm), (2, AV.int IntKind.u8 w), (3, AV.slc x (List.map (mkV false [Lf.fs]) l)), (9, AV.ptr 144 0 0 0), (10, AV.sref 976 0 0 (a.length + 1)), (11, AV.int IntKind.i64 (IntKind.i64.wrap (i + 1)))], bs := [(144, { v := 0, k := BK.box, fz := false, sz := 0, es := [AV.slc s.fst.fst (List.map (mkV true File_tfs) s.fst.snd), AV.slc s.snd.fst.fst (List.map (mkV true Mark_tfs) s.snd.fst.snd), AV.int IntKind.i64 s.snd.snd] }), (976, { v := 0, k := BK.row, fz := false, sz := 3, es := List.take a.length (List.map (mkV true File_tfs) a) ++ [AV.agg [AV.str d1, AV.int IntKind.i64 0, AV.str []]] })], df := [] })) none) none))
  (some (Sum.inr (Ex.exit 0, { fr := [(1, AV.str nm), (2, AV.int IntKind.u8 w), (9, AV.ptr 144 0 0 0), (10, AV.sref 976 0 0 a.length)], bs := [(144, { v := 0, k := BK.box, fz := false, sz := 0, es := [AV.slc s.fst.fst (List.map (mkV true File_tfs) s.fst.snd), AV.slc s.snd.fst.fst (List.map (mkV true Mark_tfs) s.snd.fst.snd), AV.int IntKind.i64 s.snd.snd] }), (976, { v := 0, k := BK.row, fz := false, sz := 3, es := List.map (mkV true File_tfs) a })], df := [] })))
theorem fa_1_w (nm : List UInt8) (w : Int) (x : Bool) (l : List (List UInt8)) (s : State_T) (a : List File_T) (i : Int) : fa_1 nm w x l s a i = fa_1_r nm w x l s a i := by kernel_rfl

def faE0 (d : FaC) : St := { fr := [(1, .str d.1), (2, .int .u8 d.2.1), (9, .ptr 144 0 0 0), (10, .slc true [])], bs := [(144, boxB (Tu.mk State_tfs d.2.2.2.2))], df := [] }
def faE1 (d : FaC) (a : List File_T) : St := { fr := [(1, .str d.1), (2, .int .u8 d.2.1), (9, .ptr 144 0 0 0), (10, .sref 976 0 0 a.length)], bs := [(144, boxB (Tu.mk State_tfs d.2.2.2.2)), (976, { v := 0, k := .row, fz := false, sz := 3, es := a.map (mkV true File_tfs) })], df := [] }
def faR0 (d : FaC) : St := { fr := [(1, .str d.1), (2, .int .u8 d.2.1), (8, .bool true), (9, .ptr 144 0 0 0), (10, .slc true [])], bs := [(144, boxB (Tu.mk State_tfs d.2.2.2.2))], df := [] }
def faR1 (d : FaC) (a : List File_T) : St := { fr := [(1, .str d.1), (2, .int .u8 d.2.1), (8, .bool true), (9, .ptr 144 0 0 0), (10, .sref 976 0 0 a.length)], bs := [(144, boxB (Tu.mk State_tfs d.2.2.2.2)), (976, { v := 0, k := .row, fz := false, sz := 3, es := a.map (mkV true File_tfs) })], df := [] }
theorem loopsFA : (loopsOf 0 (codeOf Try.prog 3)).map (·.1) = [0, 2, 4] := by kernel_rfl
theorem oneFA : OneLoops Try.prog 3 := by unfold OneLoops; rw [loopsFA]; decide
theorem atFA : At 0 (codeOf Try.prog 3) 0 (.loop (bodyAt Try.prog 3 0)) := at_body oneFA (by rw [loopsFA]; decide)
def le30 (s : List UInt8) : Bool := decide (s.length ≤ 30)
def faX (d : FaC) (l : List (List UInt8)) : St := if l.isEmpty = true then faE0 d else faE1 d (fOf l)
def faY (d : FaC) (l : List (List UInt8)) : St := if l.isEmpty = true then faR0 d else faR1 d (fOf l)
def faHh (d : FaC) (l : List (List UInt8)) (i : Int) : St := if l.isEmpty = true then faHd0 d i else faHd1 d (fOf l) i
theorem faHh_ne {d : FaC} {l : List (List UInt8)} {i : Int} (h : l.isEmpty = false) : faHh d l i = faHd1 d (fOf l) i := by unfold faHh; rw [h]; rfl
def faEx (d : FaC) : Ex × St := if d.2.2.2.1.all le30 = true then (.exit 0, faX d d.2.2.2.1) else (.ret, faY d (d.2.2.2.1.takeWhile le30))
theorem takeWhile_take {l : List (List UInt8)} {i : Nat} (hi : i < l.length) (h : (l.take i).all le30 = true) (hn : le30 l[i] = false) : l.takeWhile le30 = l.take i := by
  have e : l = l.take i ++ l.drop i := (List.take_append_drop i l).symm
  conv => lhs; rw [e]
  rw [List.takeWhile_append_of_pos (fun a ha => List.all_eq_true.1 h a ha), List.drop_eq_getElem_cons hi, List.takeWhile_cons]
  rw [hn]
  simp
theorem fa_run (nm : List UInt8) (w : Int) (x : Bool) (l : List (List UInt8)) (s : State_T) (hl : l.length ≤ 8) : ∀ (j i : Nat), i + j = l.length → (l.take i).all le30 = true → ∀ (m : Nat), j < m → Runs' Try.prog cfg D8PK4 3 0 m (faHh (nm, w, x, l, s) (l.take i) i) (faEx (nm, w, x, l, s))
  | 0, i, hi, ha, m + 1, hm => by
    have et : l.take i = l := List.take_of_length_le (by omega)
    rw [et] at ha ⊢
    unfold faEx
    rw [if_pos ha]
    unfold faHh faX
    by_cases he : l.isEmpty = true
    · rw [if_pos he, if_pos he]
      refine Runs'.done (lp := LP0) LPok.none atFA ((fa_0_w nm w x l s i).trans ?_)
      unfold fa_0_r
      rw [bK_neg (by rw [List.length_map]; exact decide_eq_false (by omega))]
      rfl
    · rw [if_neg he, if_neg he]
      refine Runs'.done (lp := LP0) LPok.none atFA ((fa_1_w nm w x l s (fOf l) i).trans ?_)
      unfold fa_1_r
      rw [bK_neg (by rw [List.length_map]; exact decide_eq_false (by omega))]
      rfl
  | j + 1, i, hi, ha, m + 1, hm => by
    have hi' : i < l.length := by omega
    have hg : l.getD (i : Int).toNat [] = l[i] := by rw [Int.toNat_natCast, getD_at hi']
    by_cases h1 : le30 l[i] = true
    · have h1' : l[i].length ≤ 30 := of_decide_eq_true h1
      have et : l.take (i + 1) = l.take i ++ [l[i]] := by rw [List.take_succ_eq_append_getElem hi']
      have hr := fa_run nm w x l s hl j (i + 1) (by omega) (by rw [et, List.all_append, ha]; simp [h1]) m (by omega)
      rw [faHh_ne (by rw [et]; cases l.take i <;> rfl)] at hr
      refine Runs'.step (st1 := faHd1 (nm, w, x, l, s) (fOf (l.take (i + 1))) ((i + 1 : Nat) : Int)) (lp := LP0) LPok.none atFA ?_ hr
      unfold faHh
      by_cases he : (l.take i).isEmpty = true
      · rw [if_pos he]
        refine (fa_0_w nm w x l s i).trans ?_
        unfold fa_0_r
        rw [bK_pos (by rw [List.length_map]; exact decide_eq_true (by omega))]
        refine (oK_atD rfl [] (by omega) (by omega)).trans ?_
        rw [hg, bK_neg (by exact decide_eq_false (by omega))]
        refine (oK_atD rfl [] (by omega) (by omega)).trans ?_
        have e0 : l.take i = [] := by simpa using he
        rw [hg, w64 (by omega) (by omega), et, e0]
        rfl
      · rw [if_neg he]
        refine (fa_1_w nm w x l s (fOf (l.take i)) i).trans ?_
        unfold fa_1_r
        rw [bK_pos (by rw [List.length_map]; exact decide_eq_true (by omega))]
        refine (oK_atD rfl [] (by omega) (by omega)).trans ?_
        rw [hg, bK_neg (by exact decide_eq_false (by omega))]
        refine (oK_atD rfl [] (by omega) (by omega)).trans ?_
        have hfl : (fOf (l.take i)).length ≤ 8 := by unfold fOf; rw [List.length_map, List.length_take]; omega
        rw [hg, w64 (by omega) (by omega), bK_pos (by simp), bK_pos (by simp [fitFl (show (fOf (l.take i)).length + 1 ≤ 1000000 by omega)]), et]
        have e9 : List.take (fOf (l.take i)).length (List.map (mkV true File_tfs) (fOf (l.take i))) = List.map (mkV true File_tfs) (fOf (l.take i)) := List.take_of_length_le (by simp)
        rw [e9]
        have ef : fOf (l.take i ++ [l[i]]) = fOf (l.take i) ++ [(l[i], 0, [])] := by unfold fOf; rw [List.map_append]; rfl
        unfold faHd1
        simp only [ef, List.map_append, List.length_append, List.length_cons, List.length_nil]
        rfl
    · have h1f : le30 l[i] = false := by simpa using h1
      have h1' : ¬ l[i].length ≤ 30 := fun hh => h1 (decide_eq_true hh)
      have hall : l.all le30 = false := by
        rw [List.all_eq_false]
        exact ⟨l[i], List.getElem_mem hi', by rw [h1f]; decide⟩
      unfold faEx
      rw [if_neg (by rw [hall]; decide)]
      simp only
      rw [takeWhile_take hi' ha h1f]
      unfold faHh faY
      by_cases he : (l.take i).isEmpty = true
      · rw [if_pos he, if_pos he]
        refine Runs'.done (lp := LP0) LPok.none atFA ((fa_0_w nm w x l s i).trans ?_)
        unfold fa_0_r
        rw [bK_pos (by rw [List.length_map]; exact decide_eq_true (by omega))]
        refine (oK_atD rfl [] (by omega) (by omega)).trans ?_
        rw [hg, bK_pos (by exact decide_eq_true (by omega))]
        rfl
      · rw [if_neg he, if_neg he]
        refine Runs'.done (lp := LP0) LPok.none atFA ((fa_1_w nm w x l s (fOf (l.take i)) i).trans ?_)
        unfold fa_1_r
        rw [bK_pos (by rw [List.length_map]; exact decide_eq_true (by omega))]
        refine (oK_atD rfl [] (by omega) (by omega)).trans ?_
        rw [hg, bK_pos (by exact decide_eq_true (by omega))]
        rfl
def faH (d : FaC) : St := faHd0 d 0
/-- Are all short? Those ahead of the first long one. -/
def faA (l : List (List UInt8)) : Bool := l.all le30
def faB (l : List (List UInt8)) : Bool := (l.takeWhile le30).isEmpty
def faP (l : List (List UInt8)) : List File_T := fOf (l.takeWhile le30)
def faF (l : List (List UInt8)) : List File_T := fOf l
noncomputable def faL : LP := LP.of (D := FaC) faH (fun d => d.2.2.2.1.length ≤ 8) fun d => .ite (faA d.2.2.2.1) (.ite d.2.2.2.1.isEmpty (.leaf (.exit 0, faE0 d)) (.leaf (.exit 0, faE1 d (faF d.2.2.2.1)))) (.ite (faB d.2.2.2.1) (.leaf (.ret, faR0 d)) (.leaf (.ret, faR1 d (faP d.2.2.2.1))))
noncomputable def LPfa : LPs := LPs.add LP0 3 0 faL
theorem LPfa_ok : LPok Try.prog cfg D8PK4 LPfa 3 := LPok.addH LPok.none oneFA (by
  rintro ⟨nm, w, x, l, s⟩ h
  have h' : l.length ≤ 8 := h
  have hr := fa_run nm w x l s h' l.length 0 (by omega) (by simp) rounds (by simp only [rounds]; omega)
  have e0 : faHh (nm, w, x, l, s) (l.take 0) ((0 : Nat) : Int) = faH (nm, w, x, l, s) := rfl
  rw [e0] at hr
  refine cast ?_ hr
  congr 1
  show faEx (nm, w, x, l, s) = (if faA l = true then (if l.isEmpty = true then (.exit 0, faE0 (nm, w, x, l, s)) else (.exit 0, faE1 (nm, w, x, l, s) (faF l))) else (if faB l = true then (.ret, faR0 (nm, w, x, l, s)) else (.ret, faR1 (nm, w, x, l, s) (faP l))))
  by_cases h1 : l.all le30 = true
  · have hA : faA l = true := h1
    unfold faEx
    rw [if_pos h1, if_pos hA]
    unfold faX
    simp only
    cases l.isEmpty <;> rfl
  · have hA : ¬ faA l = true := h1
    unfold faEx
    rw [if_neg h1, if_neg hA]
    unfold faY faP
    simp only
    have hB : faB l = (l.takeWhile le30).isEmpty := rfl
    rw [hB]
    cases (l.takeWhile le30).isEmpty <;> rfl)
theorem faH_inj (d d' : FaC) (h : faH d = faH d') : d = d' := by
  obtain ⟨a, w, x, l, s⟩ := d
  obtain ⟨a', w', x', l', s'⟩ := d'
  simp only [faH, faHd0, boxB, St.mk.injEq, List.cons.injEq, Prod.mk.injEq, AV.slc.injEq, AV.str.injEq, AV.int.injEq, Blk.mk.injEq, and_true, true_and] at h
  obtain ⟨⟨h1, h2, h3, h4⟩, h5⟩ := h
  rw [h1, h2, h3, map_inj (fs := [Lf.fs]) rfl h4, mk_inj (fs := State_tfs) rfl h5]
abbrev dirAll_id : Nat := 3
abbrev dirAll_sh : Shp := [none, none, none, none]
abbrev dirAll_fs : List Lf := [.fl false [.fi .u8], .fs, .fi .u8, .fl false [.fs]]
abbrev dirAll_rsh : Shp := [none]
abbrev dirAll_rfs : List Lf := [.fb]
noncomputable def dirAll_r (picks_x : Bool) (picks : List Int) (name : List UInt8) (which : Int) (l_x : Bool) (l : List (List UInt8)) : Option Ret :=
  oK (begunS.dec [] []) fun (d0 : PUnit) =>
  bK (decide (40 < (↑(List.map (mkV false [Lf.fi IntKind.u8]) picks).length : Int))) (some { pan := false, res := AV.bool true, out := [], new := [] })
    (bK (decide (30 < (↑name.length : Int))) (some { pan := false, res := AV.bool true, out := [], new := [] })
      (bK (decide (8 < (↑(List.map (mkV false [Lf.fs]) l).length : Int))) (some { pan := false, res := AV.bool true, out := [], new := [] })
        (oK (statePS.dec [AV.ptr 1000000 0 0 0, AV.int IntKind.i64 20] [{ v := 0, k := BK.box, fz := false, sz := 0, es := [AV.slc picks_x (List.map (mkV false [Lf.fi IntKind.u8]) picks), AV.int IntKind.i64 0] }]) fun (d1 : ((Bool × List Int) × Int) × Int) =>
          oK (faL.dec { fr := [(1, AV.str name), (2, AV.int IntKind.u8 which), (3, AV.slc l_x (List.map (mkV false [Lf.fs]) l)), (9, AV.ptr 144 0 0 0), (10, AV.slc true []), (11, AV.int IntKind.i64 0)], bs := [(144, { v := 0, k := BK.box, fz := false, sz := 0, es := [AV.slc (stR (d1.fst, d1.snd)).snd.fst.fst (List.map (mkV true File_tfs) (stR (d1.fst, d1.snd)).snd.fst.snd), AV.slc (stR (d1.fst, d1.snd)).snd.snd.fst.fst (List.map (mkV true Mark_tfs) (stR (d1.fst, d1.snd)).snd.snd.fst.snd), AV.int IntKind.i64 (stR (d1.fst, d1.snd)).snd.snd.snd] })], df := [] }) fun (d2 : List UInt8 × Int × Bool × List (List UInt8) × (Bool × List (List UInt8 × Int × List UInt8)) × (Bool × List (Int × Int × Int × Int)) × Int) =>
            bK (faA d2.snd.snd.snd.fst)
              (bK d2.snd.snd.snd.fst.isEmpty
                (oK (nameS.dec [AV.ptr 1000000 0 0 0] [{ v := 0, k := BK.box, fz := false, sz := 0, es := [AV.slc false [AV.int IntKind.u8 d2.snd.fst], AV.int IntKind.i64 0] }]) fun (d3 : ((Bool × List Int) × Int) × PUnit) =>
                  oK (ldRow [Lf.fl true File_tfs] [AV.slc d2.snd.snd.snd.snd.fst.fst (List.map (mkV true File_tfs) d2.snd.snd.snd.snd.fst.snd), AV.slc true []] 0 0) fun (d4 : Bool × List (List UInt8 × Int × List UInt8)) =>
                    oK (findDS.dec [AV.slc d4.fst (List.map (mkV true File_tfs) d4.snd), AV.str d2.fst] []) fun (d5 : (Bool × List (List UInt8 × Int × List UInt8)) × List UInt8) =>
                      oK (ldRow [Lf.fl true File_tfs] [AV.slc d2.snd.snd.snd.snd.fst.fst (List.map (mkV true File_tfs) d2.snd.snd.snd.snd.fst.snd), AV.slc true []] 0 0) fun (d6 : Bool × List (List UInt8 × Int × List UInt8)) =>
                        oK (findS.dec [AV.slc d6.fst (List.map (mkV true File_tfs) d6.snd), AV.str d2.fst] []) fun (d7 : (Bool × List (List UInt8 × Int × List UInt8)) × List UInt8) =>
                          bK (!decide ((fdF (d5.fst.fst, d5.fst.snd, d5.snd)).fst = (findF d7.fst.snd d7.snd).fst)) (some { pan := false, res := AV.bool false, out := [], new := [] })
                            (bK (!(fdF (d5.fst.fst, d5.fst.snd, d5.snd)).snd == (findF d7.fst.snd d7.snd).snd) (some { pan := false, res := AV.bool false, out := [], new := [] })
                              (oK (mayS.dec [AV.str d2.fst] []) fun (d8 : List UInt8) =>
                                oK (mayNS.dec [AV.str d2.fst] []) fun (d9 : List UInt8) =>
                                  bK (!D8mayN d8 == mayNF d9) (some { pan := false, res := AV.bool false, out := [], new := [] })
                                    (oK (ldRow [Lf.fl true File_tfs] [AV.slc d2.snd.snd.snd.snd.fst.fst (List.map (mkV true File_tfs) d2.snd.snd.snd.snd.fst.snd), AV.slc true []] 0 0) fun (d10 : Bool × List (List UInt8 × Int × List UInt8)) =>
                                      oK (findDS.dec [AV.slc d10.fst (List.map (mkV true File_tfs) d10.snd), AV.str (nameF d3.fst).snd] []) fun (d11 : (Bool × List (List UInt8 × Int × List UInt8)) × List UInt8) =>
                                        oK (ldRow [Lf.fl true File_tfs] [AV.slc d2.snd.snd.snd.snd.fst.fst (List.map (mkV true File_tfs) d2.snd.snd.snd.snd.fst.snd), AV.slc true []] 0 0) fun (d12 : Bool × List (List UInt8 × Int × List UInt8)) =>
                                          oK (findS.dec [AV.slc d12.fst (List.map (mkV true File_tfs) d12.snd), AV.str (nameF d3.fst).snd] []) fun (d13 : (Bool × List (List UInt8 × Int × List UInt8)) × List UInt8) =>
                                            bK (!decide ((fdF (d11.fst.fst, d11.fst.snd, d11.snd)).fst = (findF d13.fst.snd d13.snd).fst)) (some { pan := false, res := AV.bool false, out := [], new := [] })
                                              (bK (!(fdF (d11.fst.fst, d11.fst.snd, d11.snd)).snd == (findF d13.fst.snd d13.snd).snd) (some { pan := false, res := AV.bool false, out := [], new := [] })
                                                (oK (mayS.dec [AV.str (nameF d3.fst).snd] []) fun (d14 : List UInt8) =>
                                                  oK (mayNS.dec [AV.str (nameF d3.fst).snd] []) fun (d15 : List UInt8) =>
                                                    bK (!D8mayN d14 == mayNF d15) (some { pan := false, res := AV.bool false, out := [], new := [] })
                                                      (oK (findDS.dec [AV.slc true [], AV.str d2.fst] []) fun (d16 : (Bool × List (List UInt8 × Int × List UInt8)) × List UInt8) =>
                                                        oK (findS.dec [AV.slc true [], AV.str d2.fst] []) fun (d17 : (Bool × List (List UInt8 × Int × List UInt8)) × List UInt8) =>
                                                          bK (!decide ((fdF (d16.fst.fst, d16.fst.snd, d16.snd)).fst = (findF d17.fst.snd d17.snd).fst)) (some { pan := false, res := AV.bool false, out := [], new := [] })
                                                            (bK (!(fdF (d16.fst.fst, d16.fst.snd, d16.snd)).snd == (findF d17.fst.snd d17.snd).snd) (some { pan := false, res := AV.bool false, out := [], new := [] })
                                                              (oK (mayS.dec [AV.str d2.fst] []) fun (d18 : List UInt8) =>
                                                                oK (mayNS.dec [AV.str d2.fst] []) fun (d19 : List UInt8) =>
                                                                  bK (!D8mayN d18 == mayNF d19) (some { pan := false, res := AV.bool false, out := [], new := [] })
                                                                    (oK (findDS.dec [AV.slc true [], AV.str (nameF d3.fst).snd] []) fun (d20 : (Bool × List (List UInt8 × Int × List UInt8)) × List UInt8) =>
                                                                      oK (findS.dec [AV.slc true [], AV.str (nameF d3.fst).snd] []) fun (d21 : (Bool × List (List UInt8 × Int × List UInt8)) × List UInt8) =>
                                                                        bK (!decide ((fdF (d20.fst.fst, d20.fst.snd, d20.snd)).fst = (findF d21.fst.snd d21.snd).fst)) (some { pan := false, res := AV.bool false, out := [], new := [] })
                                                                          (bK (!(fdF (d20.fst.fst, d20.fst.snd, d20.snd)).snd == (findF d21.fst.snd d21.snd).snd) (some { pan := false, res := AV.bool false, out := [], new := [] })
                                                                            (oK (mayS.dec [AV.str (nameF d3.fst).snd] []) fun (d22 : List UInt8) =>
                                                                              oK (mayNS.dec [AV.str (nameF d3.fst).snd] []) fun (d23 : List UInt8) =>
                                                                                bK (!D8mayN d22 == mayNF d23) (some { pan := false, res := AV.bool false, out := [], new := [] })
                                                                                  (oK (ldRow [Lf.fl true File_tfs] [AV.slc d2.snd.snd.snd.snd.fst.fst (List.map (mkV true File_tfs) d2.snd.snd.snd.snd.fst.snd), AV.slc true []] 0 0) fun (d24 : Bool × List (List UInt8 × Int × List UInt8)) =>
                                                                                    oK (roomDS.dec [AV.slc d24.fst (List.map (mkV true File_tfs) d24.snd)] []) fun (d25 : Bool × List (List UInt8 × Int × List UInt8)) => oK (ldRow [Lf.fl true File_tfs] [AV.slc d2.snd.snd.snd.snd.fst.fst (List.map (mkV true File_tfs) d2.snd.snd.snd.snd.fst.snd), AV.slc true []] 0 0) fun (d26 : Bool × List (List UInt8 × Int × List UInt8)) => oK (roomS.dec [AV.slc d26.fst (List.map (mkV true File_tfs) d26.snd)] []) fun (d27 : Bool × List (List UInt8 × Int × List UInt8)) => bK (!decide (D8posF (d25.fst, d25.snd, []) + 1 = (roomF d27.snd).fst)) (some { pan := false, res := AV.bool false, out := [], new := [] }) (bK (!decide (0 ≤ D8posF (d25.fst, d25.snd, [])) == (roomF d27.snd).snd) (some { pan := false, res := AV.bool false, out := [], new := [] }) (oK (roomDS.dec [AV.slc true []] []) fun (d28 : Bool × List (List UInt8 × Int × List UInt8)) => oK (roomS.dec [AV.slc true []] []) fun (d29 : Bool × List (List UInt8 × Int × List UInt8)) => bK (!decide (D8posF (d28.fst, d28.snd, []) + 1 = (roomF d29.snd).fst)) (some { pan := false, res := AV.bool false, out := [], new := [] }) (bK (!decide (0 ≤ D8posF (d28.fst, d28.snd, [])) == (roomF d29.snd).snd) (some { pan := false, res := AV.bool false, out := [], new := [] }) (some { pan := false, res := AV.bool true, out := [], new := [] })))))))))))))))))
                (oK (nameS.dec [AV.ptr 1000000 0 0 0] [{ v := 0, k := BK.box, fz := false, sz := 0, es := [AV.slc false [AV.int IntKind.u8 d2.snd.fst], AV.int IntKind.i64 0] }]) fun (d30 : ((Bool × List Int) × Int) × PUnit) =>
                  bK (decide (0 + (faF d2.snd.snd.snd.fst).length ≤ (List.map (mkV true File_tfs) (faF d2.snd.snd.snd.fst)).length))
                    (oK (ldRow [Lf.fl true File_tfs] [AV.slc d2.snd.snd.snd.snd.fst.fst (List.map (mkV true File_tfs) d2.snd.snd.snd.snd.fst.snd), AV.slc false (List.take (faF d2.snd.snd.snd.fst).length (List.drop 0 (List.map (mkV true File_tfs) (faF d2.snd.snd.snd.fst))))] 0 0) fun (d31 : Bool × List (List UInt8 × Int × List UInt8)) =>
                      oK (findDS.dec [AV.slc d31.fst (List.map (mkV true File_tfs) d31.snd), AV.str d2.fst] []) fun (d32 : (Bool × List (List UInt8 × Int × List UInt8)) × List UInt8) =>
                        oK (ldRow [Lf.fl true File_tfs] [AV.slc d2.snd.snd.snd.snd.fst.fst (List.map (mkV true File_tfs) d2.snd.snd.snd.snd.fst.snd), AV.slc false (List.take (faF d2.snd.snd.snd.fst).length (List.drop 0 (List.map (mkV true File_tfs) (faF d2.snd.snd.snd.fst))))] 0 0) fun (d33 : Bool × List (List UInt8 × Int × List UInt8)) =>
                          oK (findS.dec [AV.slc d33.fst (List.map (mkV true File_tfs) d33.snd), AV.str d2.fst] []) fun (d34 : (Bool × List (List UInt8 × Int × List UInt8)) × List UInt8) =>
                            bK (!decide ((fdF (d32.fst.fst, d32.fst.snd, d32.snd)).fst = (findF d34.fst.snd d34.snd).fst)) (some { pan := false, res := AV.bool false, out := [], new := [] })
                              (bK (!(fdF (d32.fst.fst, d32.fst.snd, d32.snd)).snd == (findF d34.fst.snd d34.snd).snd) (some { pan := false, res := AV.bool false, out := [], new := [] })
                                (oK (mayS.dec [AV.str d2.fst] []) fun (d35 : List UInt8) =>
                                  oK (mayNS.dec [AV.str d2.fst] []) fun (d36 : List UInt8) =>
                                    bK (!D8mayN d35 == mayNF d36) (some { pan := false, res := AV.bool false, out := [], new := [] })
                                      (oK (ldRow [Lf.fl true File_tfs] [AV.slc d2.snd.snd.snd.snd.fst.fst (List.map (mkV true File_tfs) d2.snd.snd.snd.snd.fst.snd), AV.slc false (List.take (faF d2.snd.snd.snd.fst).length (List.drop 0 (List.map (mkV true File_tfs) (faF d2.snd.snd.snd.fst))))] 0 0) fun (d37 : Bool × List (List UInt8 × Int × List UInt8)) =>
                                        oK (findDS.dec [AV.slc d37.fst (List.map (mkV true File_tfs) d37.snd), AV.str (nameF d30.fst).snd] []) fun (d38 : (Bool × List (List UInt8 × Int × List UInt8)) × List UInt8) =>
                                          oK (ldRow [Lf.fl true File_tfs] [AV.slc d2.snd.snd.snd.snd.fst.fst (List.map (mkV true File_tfs) d2.snd.snd.snd.snd.fst.snd), AV.slc false (List.take (faF d2.snd.snd.snd.fst).length (List.drop 0 (List.map (mkV true File_tfs) (faF d2.snd.snd.snd.fst))))] 0 0) fun (d39 : Bool × List (List UInt8 × Int × List UInt8)) =>
                                            oK (findS.dec [AV.slc d39.fst (List.map (mkV true File_tfs) d39.snd), AV.str (nameF d30.fst).snd] []) fun (d40 : (Bool × List (List UInt8 × Int × List UInt8)) × List UInt8) =>
                                              bK (!decide ((fdF (d38.fst.fst, d38.fst.snd, d38.snd)).fst = (findF d40.fst.snd d40.snd).fst)) (some { pan := false, res := AV.bool false, out := [], new := [] })
                                                (bK (!(fdF (d38.fst.fst, d38.fst.snd, d38.snd)).snd == (findF d40.fst.snd d40.snd).snd) (some { pan := false, res := AV.bool false, out := [], new := [] })
                                                  (oK (mayS.dec [AV.str (nameF d30.fst).snd] []) fun (d41 : List UInt8) =>
                                                    oK (mayNS.dec [AV.str (nameF d30.fst).snd] []) fun (d42 : List UInt8) =>
                                                      bK (!D8mayN d41 == mayNF d42) (some { pan := false, res := AV.bool false, out := [], new := [] })
                                                        (oK (ldRow [Lf.fl true File_tfs] [AV.slc d2.snd.snd.snd.snd.fst.fst (List.map (mkV true File_tfs) d2.snd.snd.snd.snd.fst.snd), AV.slc false (List.take (faF d2.snd.snd.snd.fst).length (List.drop 0 (List.map (mkV true File_tfs) (faF d2.snd.snd.snd.fst))))] 1 0) fun (d43 : Bool × List (List UInt8 × Int × List UInt8)) =>
                                                          oK (findDS.dec [AV.slc d43.fst (List.map (mkV true File_tfs) d43.snd), AV.str d2.fst] []) fun (d44 : (Bool × List (List UInt8 × Int × List UInt8)) × List UInt8) =>
                                                            oK (ldRow [Lf.fl true File_tfs] [AV.slc d2.snd.snd.snd.snd.fst.fst (List.map (mkV true File_tfs) d2.snd.snd.snd.snd.fst.snd), AV.slc false (List.take (faF d2.snd.snd.snd.fst).length (List.drop 0 (List.map (mkV true File_tfs) (faF d2.snd.snd.snd.fst))))] 1 0) fun (d45 : Bool × List (List UInt8 × Int × List UInt8)) =>
                                                              oK (findS.dec [AV.slc d45.fst (List.map (mkV true File_tfs) d45.snd), AV.str d2.fst] []) fun (d46 : (Bool × List (List UInt8 × Int × List UInt8)) × List UInt8) =>
                                                                bK (!decide ((fdF (d44.fst.fst, d44.fst.snd, d44.snd)).fst = (findF d46.fst.snd d46.snd).fst)) (some { pan := false, res := AV.bool false, out := [], new := [] })
                                                                  (bK (!(fdF (d44.fst.fst, d44.fst.snd, d44.snd)).snd == (findF d46.fst.snd d46.snd).snd) (some { pan := false, res := AV.bool false, out := [], new := [] })
                                                                    (oK (mayS.dec [AV.str d2.fst] []) fun (d47 : List UInt8) =>
                                                                      oK (mayNS.dec [AV.str d2.fst] []) fun (d48 : List UInt8) =>
                                                                        bK (!D8mayN d47 == mayNF d48) (some { pan := false, res := AV.bool false, out := [], new := [] })
                                                                          (oK (ldRow [Lf.fl true File_tfs] [AV.slc d2.snd.snd.snd.snd.fst.fst (List.map (mkV true File_tfs) d2.snd.snd.snd.snd.fst.snd), AV.slc false (List.take (faF d2.snd.snd.snd.fst).length (List.drop 0 (List.map (mkV true File_tfs) (faF d2.snd.snd.snd.fst))))] 1 0) fun (d49 : Bool × List (List UInt8 × Int × List UInt8)) =>
                                                                            oK (findDS.dec [AV.slc d49.fst (List.map (mkV true File_tfs) d49.snd), AV.str (nameF d30.fst).snd] []) fun (d50 : (Bool × List (List UInt8 × Int × List UInt8)) × List UInt8) =>
                                                                              oK (ldRow [Lf.fl true File_tfs] [AV.slc d2.snd.snd.snd.snd.fst.fst (List.map (mkV true File_tfs) d2.snd.snd.snd.snd.fst.snd), AV.slc false (List.take (faF d2.snd.snd.snd.fst).length (List.drop 0 (List.map (mkV true File_tfs) (faF d2.snd.snd.snd.fst))))] 1 0) fun (d51 : Bool × List (List UInt8 × Int × List UInt8)) =>
                                                                                oK (findS.dec [AV.slc d51.fst (List.map (mkV true File_tfs) d51.snd), AV.str (nameF d30.fst).snd] []) fun (d52 : (Bool × List (List UInt8 × Int × List UInt8)) × List UInt8) =>
                                                                                  bK (!decide ((fdF (d50.fst.fst, d50.fst.snd, d50.snd)).fst = (findF d52.fst.snd d52.snd).fst)) (some { pan := false, res := AV.bool false, out := [], new := [] })
                                                                                    (bK (!(fdF (d50.fst.fst, d50.fst.snd, d50.snd)).snd == (findF d52.fst.snd d52.snd).snd) (some { pan := false, res := AV.bool false, out := [], new := [] })
                                                                                      (oK (mayS.dec [AV.str (nameF d30.fst).snd] []) fun (d53 : List UInt8) =>
                                                                                        oK (mayNS.dec [AV.str (nameF d30.fst).snd] []) fun (d54 : List UInt8) =>
                                                                                          bK (!D8mayN d53 == mayNF d54) (some { pan := false, res := AV.bool false, out := [], new := [] })
                                                                                            (oK (ldRow [Lf.fl true File_tfs] [AV.slc d2.snd.snd.snd.snd.fst.fst (List.map (mkV true File_tfs) d2.snd.snd.snd.snd.fst.snd), AV.slc false (List.take (faF d2.snd.snd.snd.fst).length (List.drop 0 (List.map (mkV true File_tfs) (faF d2.snd.snd.snd.fst))))] 0 0) fun (d55 : Bool × List (List UInt8 × Int × List UInt8)) =>
                                                                                              oK (roomDS.dec [AV.slc d55.fst (List.map (mkV true File_tfs) d55.snd)] []) fun (d56 : Bool × List (List UInt8 × Int × List UInt8)) =>
                                                                                                oK (ldRow [Lf.fl true File_tfs] [AV.slc d2.snd.snd.snd.snd.fst.fst (List.map (mkV true File_tfs) d2.snd.snd.snd.snd.fst.snd), AV.slc false (List.take (faF d2.snd.snd.snd.fst).length (List.drop 0 (List.map (mkV true File_tfs) (faF d2.snd.snd.snd.fst))))] 0 0) fun (d57 : Bool × List (List UInt8 × Int × List UInt8)) =>
                                                                                                  oK (roomS.dec [AV.slc d57.fst (List.map (mkV true File_tfs) d57.snd)] []) fun (d58 : Bool × List (List UInt8 × Int × List UInt8)) =>
                                                                                                    bK (!decide (D8posF (d56.fst, d56.snd, []) + 1 = (roomF d58.snd).fst)) (some { pan := false, res := AV.bool false, out := [], new := [] })
                                                                                                      (bK (!decide (0 ≤ D8posF (d56.fst, d56.snd, [])) == (roomF d58.snd).snd) (some { pan := false, res := AV.bool false, out := [], new := [] })
                                                                                                        (oK (ldRow [Lf.fl true File_tfs] [AV.slc d2.snd.snd.snd.snd.fst.fst (List.map (mkV true File_tfs) d2.snd.snd.snd.snd.fst.snd), AV.slc false (List.take (faF d2.snd.snd.snd.fst).length (List.drop 0 (List.map (mkV true File_tfs) (faF d2.snd.snd.snd.fst))))] 1 0) fun (d59 : Bool × List (List UInt8 × Int × List UInt8)) => oK (roomDS.dec [AV.slc d59.fst (List.map (mkV true File_tfs) d59.snd)] []) fun (d60 : Bool × List (List UInt8 × Int × List UInt8)) => oK (ldRow [Lf.fl true File_tfs] [AV.slc d2.snd.snd.snd.snd.fst.fst (List.map (mkV true File_tfs) d2.snd.snd.snd.snd.fst.snd), AV.slc false (List.take (faF d2.snd.snd.snd.fst).length (List.drop 0 (List.map (mkV true File_tfs) (faF d2.snd.snd.snd.fst))))] 1 0) fun (d61 : Bool × List (List UInt8 × Int × List UInt8)) => oK (roomS.dec [AV.slc d61.fst (List.map (mkV true File_tfs) d61.snd)] []) fun (d62 : Bool × List (List UInt8 × Int × List UInt8)) => bK (!decide (D8posF (d60.fst, d60.snd, []) + 1 = (roomF d62.snd).fst)) (some { pan := false, res := AV.bool false, out := [], new := [] }) (bK (!decide (0 ≤ D8posF (d60.fst, d60.snd, [])) == (roomF d62.snd).snd) (some { pan := false, res := AV.bool false, out := [], new := [] }) (some { pan := false, res := AV.bool true, out := [], new := [] })))))))))))))))))
                    none))
              (bK (faB d2.snd.snd.snd.fst) (some { pan := false, res := AV.bool true, out := [], new := [] }) (some { pan := false, res := AV.bool true, out := [], new := [] })))))
theorem dirAll_w (picks_x : Bool) (picks : List Int) (name : List UInt8) (which : Int) (l_x : Bool) (l : List (List UInt8)) : unitQ Try.prog cfg D8PK4 LPfa true 3 (groupA dirAll_sh (Tu.mk dirAll_fs ((picks_x, picks), name, which, (l_x, l)))) [] = dirAll_r picks_x picks name which l_x l := by kernel_rfl

theorem posD_eq (nm : List UInt8) : ∀ (l : List File_T) (i : Nat), D8posN nm l (i : Int) = (posN nm l i : Int) - 1
  | [], i => by unfold D8posN posN; rfl
  | f :: l, i => by
    unfold D8posN posN
    by_cases h : f.1 = nm
    · rw [if_pos h, if_pos h]; omega
    · rw [if_neg h, if_neg h]
      have := posD_eq nm l (i + 1)
      rw [← this]
      rfl
theorem mayD_eq (s : List UInt8) : D8mayN s = mayNF s := rfl
theorem find_same (x y : Bool) (l : List File_T) (nm : List UInt8) : (fdF (x, l, nm)) = findF l nm := by
  have hp : D8posF (x, l, nm) = (posN nm l 0 : Int) - 1 := posD_eq nm l 0
  unfold fdF findF
  by_cases hm : mayNF nm = true
  · rw [if_pos (show D8mayN nm = true from hm)]
    rw [show D8posF ((x, l, nm).1, (x, l, nm).2.1, (x, l, nm).2.2) = D8posF (x, l, nm) from rfl, hp]
    by_cases h0 : posN nm l 0 = 0
    · have hb : ¬ findB l nm = true := by unfold findB; rw [hm, h0]; decide
      rw [if_neg hb, h0]; rfl
    · have hb : findB l nm = true := by unfold findB; rw [hm, decide_eq_false h0]; rfl
      rw [if_pos hb]
      show (_, _) = ((posN nm l 0 : Int), true)
      rw [decide_eq_true (by omega)]
      congr 1
      omega
  · rw [if_neg (show ¬ D8mayN nm = true from hm)]
    have hb : ¬ findB l nm = true := by
      unfold findB
      intro hh
      rw [Bool.and_eq_true] at hh
      exact hm hh.1
    rw [if_neg hb]
theorem room_same (x : Bool) (l : List File_T) : (D8posF (x, l, []) + 1, decide (0 ≤ D8posF (x, l, []))) = roomF l := by
  have hp : D8posF (x, l, []) = (posN [] l 0 : Int) - 1 := posD_eq [] l 0
  rw [hp]
  unfold roomF
  by_cases h0 : posN [] l 0 = 0
  · have hb : posB [] l = true := decide_eq_true h0
    rw [if_pos hb, h0]; rfl
  · have hb : ¬ posB [] l = true := fun hh => h0 (of_decide_eq_true hh)
    rw [if_neg hb]
    show (_, _) = ((posN [] l 0 : Int), true)
    rw [decide_eq_true (by omega)]
    congr 1
    omega
theorem ld0 (p q : Bool × List File_T) : ldRow [Lf.fl true File_tfs] [AV.slc p.1 (List.map (mkV true File_tfs) p.2), AV.slc q.1 (List.map (mkV true File_tfs) q.2)] 0 0 = some p := by
  have := dec_fl (agg := true) (fs := File_tfs) rfl p.1 p.2
  simp [ldRow, ldCells, AV.cells, Tu.dec, this]
theorem ld1 (p q : Bool × List File_T) : ldRow [Lf.fl true File_tfs] [AV.slc p.1 (List.map (mkV true File_tfs) p.2), AV.slc q.1 (List.map (mkV true File_tfs) q.2)] 1 0 = some q := by
  have := dec_fl (agg := true) (fs := File_tfs) rfl q.1 q.2
  simp [ldRow, ldCells, AV.cells, Tu.dec, this]
theorem oK_lot0 {R : Type} (p q : Bool × List File_T) {k : Tu [Lf.fl true File_tfs] → Option R} {Q : Option R → Prop} (hz : Q (k p)) : Q (oK (ldRow [Lf.fl true File_tfs] [AV.slc p.1 (List.map (mkV true File_tfs) p.2), AV.slc q.1 (List.map (mkV true File_tfs) q.2)] 0 0) k) := oK_q (ld0 p q) hz
theorem oK_lot1 {R : Type} (p q : Bool × List File_T) {k : Tu [Lf.fl true File_tfs] → Option R} {Q : Option R → Prop} (hz : Q (k q)) : Q (oK (ldRow [Lf.fl true File_tfs] [AV.slc p.1 (List.map (mkV true File_tfs) p.2), AV.slc q.1 (List.map (mkV true File_tfs) q.2)] 1 0) k) := oK_q (ld1 p q) hz
theorem find_b1 (x : Bool) (l : List File_T) (nm : List UInt8) : (!decide ((fdF (x, l, nm)).1 = (findF l nm).1)) = false := by rw [find_same x x l nm]; simp
theorem find_b2 (x : Bool) (l : List File_T) (nm : List UInt8) : (!(fdF (x, l, nm)).2 == (findF l nm).2) = false := by rw [find_same x x l nm]; simp
theorem may_b (nm : List UInt8) : (!D8mayN nm == mayNF nm) = false := by rw [mayD_eq]; simp
theorem room_b1 (x : Bool) (l : List File_T) : (!decide (D8posF (x, l, []) + 1 = (roomF l).1)) = false := by rw [← room_same x l]; simp
theorem room_b2 (x : Bool) (l : List File_T) : (!decide (0 ≤ D8posF (x, l, [])) == (roomF l).2) = false := by rw [← room_same x l]; simp
theorem wf8 {l : List Int} (h : ∀ d ∈ l, Tu.wf [.fi .u8] d) : ∀ v ∈ l, 0 ≤ v ∧ v < 256 := fun v hv => by
  have : (0 : Int) ≤ v ∧ v ≤ 255 := h v hv
  omega
theorem dirAll_yes (picks_x : Bool) (picks : List Int) (name : List UInt8) (which : Int) (l_x : Bool) (l : List (List UInt8)) (h : Tu.wf dirAll_fs ((picks_x, picks), name, which, (l_x, l))) : Yes (dirAll_r picks_x picks name which l_x l) := by
  have h8 := wf8 h.1.2
  have hwh : (0 : Int) ≤ which ∧ which ≤ 255 := h.2.2.1
  unfold dirAll_r
  refine oK_fsq begunS () trivial ?_
  refine bK_iq (fun _ => yes_leaf) (fun c1 => bK_iq (fun _ => yes_leaf) (fun c2 => bK_iq (fun _ => yes_leaf) (fun c3 => ?_)))
  have hlen : picks.length ≤ 40 := by simp only [List.length_map] at c1; omega
  have hll : l.length ≤ 8 := by simp only [List.length_map] at c3; omega
  have h_name : name.length ≤ 1000 := by omega
  have hp : pkOk ((picks_x, picks), 0) := ⟨by simp, by simp, by show picks.length ≤ 2 ^ 62; omega, h8⟩
  have hw : pkOk ((false, [which]), 0) := ⟨by simp, by simp, by show [which].length ≤ 2 ^ 62; simp, by intro v hv; rw [List.mem_singleton.1 hv]; omega⟩
  refine oK_msq statePS ((picks_x, picks), 0) (20 : Int) ⟨hp, by decide, by decide⟩ ?_
  have hst := (stR_spec (((picks_x, picks), 0), 20) ⟨hp, (by decide : (0 : Int) ≤ 20), (by decide : (20 : Int) ≤ 30)⟩).1.2
  simp only
  generalize (stR (((picks_x, picks), 0), 20)).2 = s at hst ⊢
  refine oK_lpq faH_inj (name, which, l_x, l, s) hll ?_
  have hs : s.1.2.length ≤ 100000 := by rw [hst.1.1]; decide
  have hf : (faF l).length ≤ 100000 := by show (l.map _).length ≤ 100000; rw [List.length_map]; omega
  have h0 : ([] : List File_T).length ≤ 100000 := by simp
  refine bK_bq (fun _ => bK_bq (fun _ => ?_) (fun _ => ?_)) (fun _ => bK_bq (fun _ => ?_) (fun _ => ?_))
  · refine oK_msq nameS ((false, [which]), 0) () hw ?_
    have h_n2 : (nameF ((false, [which]), 0)).2.length ≤ 1000 := Nat.le_trans (nameF_len _) (by decide)
    simp only
    generalize (nameF ((false, [which]), 0)).2 = n2 at h_n2 ⊢
    refine oK_lot0 s.1 (true, []) ?_
    refine oK_fsq findDS (s.1, name) ⟨hs, h_name⟩ ?_
    refine oK_lot0 s.1 (true, []) ?_
    refine oK_fsq findS (s.1, name) ⟨hs, h_name⟩ ?_
    refine bK_fq (find_b1 _ _ _) (bK_fq (find_b2 _ _ _) ?_)
    refine oK_fsq mayS name h_name ?_
    refine oK_fsq mayNS name h_name ?_
    refine bK_fq (may_b _) ?_
    refine oK_lot0 s.1 (true, []) ?_
    refine oK_fsq findDS (s.1, n2) ⟨hs, h_n2⟩ ?_
    refine oK_lot0 s.1 (true, []) ?_
    refine oK_fsq findS (s.1, n2) ⟨hs, h_n2⟩ ?_
    refine bK_fq (find_b1 _ _ _) (bK_fq (find_b2 _ _ _) ?_)
    refine oK_fsq mayS n2 h_n2 ?_
    refine oK_fsq mayNS n2 h_n2 ?_
    refine bK_fq (may_b _) ?_
    refine oK_fsq findDS ((true, []), name) ⟨h0, h_name⟩ ?_
    refine oK_fsq findS ((true, []), name) ⟨h0, h_name⟩ ?_
    refine bK_fq (find_b1 _ _ _) (bK_fq (find_b2 _ _ _) ?_)
    refine oK_fsq mayS name h_name ?_
    refine oK_fsq mayNS name h_name ?_
    refine bK_fq (may_b _) ?_
    refine oK_fsq findDS ((true, []), n2) ⟨h0, h_n2⟩ ?_
    refine oK_fsq findS ((true, []), n2) ⟨h0, h_n2⟩ ?_
    refine bK_fq (find_b1 _ _ _) (bK_fq (find_b2 _ _ _) ?_)
    refine oK_fsq mayS n2 h_n2 ?_
    refine oK_fsq mayNS n2 h_n2 ?_
    refine bK_fq (may_b _) ?_
    refine oK_lot0 s.1 (true, []) ?_
    refine oK_fsq roomDS s.1 hs ?_
    refine oK_lot0 s.1 (true, []) ?_
    refine oK_fsq roomS s.1 hs ?_
    refine bK_fq (room_b1 _ _) (bK_fq (room_b2 _ _) ?_)
    refine oK_fsq roomDS (true, []) h0 ?_
    refine oK_fsq roomS (true, []) h0 ?_
    refine bK_fq (room_b1 _ _) (bK_fq (room_b2 _ _) ?_)
    exact yes_leaf
  · refine oK_msq nameS ((false, [which]), 0) () hw ?_
    have h_n2 : (nameF ((false, [which]), 0)).2.length ≤ 1000 := Nat.le_trans (nameF_len _) (by decide)
    simp only
    generalize (nameF ((false, [which]), 0)).2 = n2 at h_n2 ⊢
    refine bK_tq (by simp) ?_
    have e : List.take (faF l).length (List.drop 0 (List.map (mkV true File_tfs) (faF l))) = List.map (mkV true File_tfs) (faF l) := by rw [List.drop_zero]; exact List.take_of_length_le (by simp)
    rw [e]
    refine oK_lot0 s.1 (false, faF l) ?_
    refine oK_fsq findDS (s.1, name) ⟨hs, h_name⟩ ?_
    refine oK_lot0 s.1 (false, faF l) ?_
    refine oK_fsq findS (s.1, name) ⟨hs, h_name⟩ ?_
    refine bK_fq (find_b1 _ _ _) (bK_fq (find_b2 _ _ _) ?_)
    refine oK_fsq mayS name h_name ?_
    refine oK_fsq mayNS name h_name ?_
    refine bK_fq (may_b _) ?_
    refine oK_lot0 s.1 (false, faF l) ?_
    refine oK_fsq findDS (s.1, n2) ⟨hs, h_n2⟩ ?_
    refine oK_lot0 s.1 (false, faF l) ?_
    refine oK_fsq findS (s.1, n2) ⟨hs, h_n2⟩ ?_
    refine bK_fq (find_b1 _ _ _) (bK_fq (find_b2 _ _ _) ?_)
    refine oK_fsq mayS n2 h_n2 ?_
    refine oK_fsq mayNS n2 h_n2 ?_
    refine bK_fq (may_b _) ?_
    refine oK_lot1 s.1 (false, faF l) ?_
    refine oK_fsq findDS ((false, faF l), name) ⟨hf, h_name⟩ ?_
    refine oK_lot1 s.1 (false, faF l) ?_
    refine oK_fsq findS ((false, faF l), name) ⟨hf, h_name⟩ ?_
    refine bK_fq (find_b1 _ _ _) (bK_fq (find_b2 _ _ _) ?_)
    refine oK_fsq mayS name h_name ?_
    refine oK_fsq mayNS name h_name ?_
    refine bK_fq (may_b _) ?_
    refine oK_lot1 s.1 (false, faF l) ?_
    refine oK_fsq findDS ((false, faF l), n2) ⟨hf, h_n2⟩ ?_
    refine oK_lot1 s.1 (false, faF l) ?_
    refine oK_fsq findS ((false, faF l), n2) ⟨hf, h_n2⟩ ?_
    refine bK_fq (find_b1 _ _ _) (bK_fq (find_b2 _ _ _) ?_)
    refine oK_fsq mayS n2 h_n2 ?_
    refine oK_fsq mayNS n2 h_n2 ?_
    refine bK_fq (may_b _) ?_
    refine oK_lot0 s.1 (false, faF l) ?_
    refine oK_fsq roomDS s.1 hs ?_
    refine oK_lot0 s.1 (false, faF l) ?_
    refine oK_fsq roomS s.1 hs ?_
    refine bK_fq (room_b1 _ _) (bK_fq (room_b2 _ _) ?_)
    refine oK_lot1 s.1 (false, faF l) ?_
    refine oK_fsq roomDS (false, faF l) hf ?_
    refine oK_lot1 s.1 (false, faF l) ?_
    refine oK_fsq roomS (false, faF l) hf ?_
    refine bK_fq (room_b1 _ _) (bK_fq (room_b2 _ _) ?_)
    exact yes_leaf
  · exact yes_leaf
  · exact yes_leaf

end Go.Proofs.Ytbfiepkelafgeaa
