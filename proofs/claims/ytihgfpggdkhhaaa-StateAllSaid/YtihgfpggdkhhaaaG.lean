/- A part of the proof: contracts of functions. -/
import Derived.Test.YtihgfpggdkhhaaaE
import Derived.Test.YtihgfpggdkhhaaaAbAny
import Derived.Test.YtihgfpggdkhhaaaAbDel
set_option linter.unusedVariables false
set_option linter.unusedSimpArgs false
set_option maxRecDepth 100000
namespace Go.Proofs.Ytihgfpggdkhhaaa
open Go Go.Ab
def mayM (m : Mark_T) : Prop := 0 ≤ m.1 ∧ m.1 ≤ 1073741824 ∧ 0 ≤ m.2.2.1 ∧ m.2.2.1 ≤ 6 ∧ 0 ≤ m.2.2.2 ∧ m.2.2.2 ≤ 1073741824 ∧ 0 ≤ m.2.1 ∧ m.2.1 ≤ 3
instance (m : Mark_T) : Decidable (mayM m) := inferInstanceAs (Decidable (_ ∧ _))
abbrev twC : Type := File_T
abbrev twD : Type := File_T × twC
def twB (c : twC) : List Blk := [boxB (Tu.mk File_tfs c)]
def twA (d : twD) : List AV × List Blk := (.agg (Tu.mk File_tfs d.1) :: [.ptr (outBase + 0) 0 0 0], twB d.2)
noncomputable def twcu (w : File_T) (c : twC) : Option Ret := unitQ Try.prog cfg PKz LP0 false 54 (twA (w, c)).1 (twA (w, c)).2
noncomputable def twcu_r (w : File_T) (c : twC) : Option Ret :=
  bK (!decide (c.fst = [])) (some { pan := false, res := AV.bool (decide (w.fst = c.fst)), out := [{ v := 0, k := BK.box, fz := false, sz := 0, es := [AV.str c.fst, AV.int IntKind.i64 c.snd.fst, AV.str c.snd.snd] }], new := [] }) (some { pan := false, res := AV.bool false, out := [{ v := 0, k := BK.box, fz := false, sz := 0, es := [AV.str c.fst, AV.int IntKind.i64 c.snd.fst, AV.str c.snd.snd] }], new := [] })
theorem twcu_w (w : File_T) (c : twC) : twcu w c = twcu_r w c := by kernel_rfl

/-- Is it so? -/
def twQ (d : twD) : Bool := !decide (d.2.1 = []) && decide (d.1.1 = d.2.1)
noncomputable def twP : PK := PK.of twA (fun _ => True) fun d => .leaf { pan := false, res := .bool (twQ d), out := twB d.2, new := [] }
noncomputable def tw1 : PKs := PKz.add 54 twP
theorem tw1_ok : PKsOk Try.prog tw1 := PKsOk.any PKz_ok 54 twA _ _ fun d _ => CallOk.unit (fnOk PKz_ok 21) rfl fLoops_none (by show 1 ≤ 1000; decide) (by exact (twcu_w d.1 d.2).trans (by
  have e : twQ d = (!decide (d.2.1 = []) && decide (d.1.1 = d.2.1)) := rfl
  simp only [Alt.val, e]
  unfold twcu_r
  cases h : decide (d.2.1 = []) <;> rfl))
theorem twA_inj (d d' : twD) (h : twA d = twA d') : d = d' := by
  obtain ⟨w, c⟩ := d
  obtain ⟨w', c'⟩ := d'
  simp only [twA, twB, boxB, List.cons.injEq, Prod.mk.injEq, AV.agg.injEq, Blk.mk.injEq, AV.int.injEq, and_true, true_and] at h
  refine Prod.ext (mk_inj (fs := File_tfs) rfl h.1) ?_
  exact mk_inj (fs := File_tfs) rfl h.2
abbrev twE : Type := (Bool × List File_T) × twC
def twXA (d : twE) : List AV × List Blk := ([.slc d.1.1 (d.1.2.map (mkV true File_tfs)), .fn 54 [] [.ptr (outBase + 0) 0 0 0]], twB d.2)
theorem twXA_inj (d d' : twE) (h : twXA d = twXA d') : d = d' := by
  obtain ⟨⟨x, l⟩, c⟩ := d
  obtain ⟨⟨x', l'⟩, c'⟩ := d'
  simp only [twXA, twB, boxB, List.cons.injEq, Prod.mk.injEq, AV.slc.injEq, Blk.mk.injEq, AV.int.injEq, and_true, true_and] at h
  have e1 := map_inj (fs := File_tfs) rfl h.1.2
  have e2 : c = c' := by exact mk_inj (fs := File_tfs) rfl h.2
  rw [h.1.1, e1, e2]
def twih (x : Bool) (l : List File_T) (c : twC) (i : Int) : St := { fr := [(0, .slc x (l.map (mkV true File_tfs))), (1, .fn 54 [] [AV.ptr 1000000 0 0 0]), (7, .int .i64 (((l.map (mkV true File_tfs)).length : Nat) : Int)), (8, .int .i64 i)], bs := [(1000000, boxB (Tu.mk File_tfs c))], df := [] }
noncomputable def twi0 (x : Bool) (l : List File_T) (c : twC) (i : Int) : Option (St ⊕ (Ex × St)) := stepK Try.prog cfg tw1 LP0 73 0 (twih x l c i)
noncomputable def twi0_r (x : Bool) (l : List File_T) (c : twC) (i : Int) : Option (St ⊕ Ex × St) :=
  bK (decide (i < (↑(List.map (mkV true File_tfs) l).length : Int))) (oK (elemAt true File_tfs (List.map (mkV true File_tfs) l) i) fun (d0 : List UInt8 × Int × List UInt8) => oK (twP.dec [AV.agg [AV.str d0.fst, AV.int IntKind.i64 d0.snd.fst, AV.str d0.snd.snd], AV.ptr 1000000 0 0 0] [{ v := 0, k := BK.box, fz := false, sz := 0, es := [AV.str c.fst, AV.int IntKind.i64 c.snd.fst, AV.str c.snd.snd] }]) fun (d1 : (List UInt8 × Int × List UInt8) × List UInt8 × Int × List UInt8) => bK (twQ d1) (some (Sum.inr (Ex.ret, { fr := [(4, AV.int IntKind.i64 i)], bs := [(1000000, { v := 0, k := BK.box, fz := false, sz := 0, es := [AV.str d1.snd.fst, AV.int IntKind.i64 d1.snd.snd.fst, AV.str d1.snd.snd.snd] })], df := [] }))) (some (Sum.inl { fr := [(0, AV.slc x (List.map (mkV true File_tfs) l)), (1, AV.fn 54 [] [AV.ptr 1000000 0 0 0]), (7, AV.int IntKind.i64 (↑(List.map (mkV true File_tfs) l).length : Int)), (8, AV.int IntKind.i64 (IntKind.i64.wrap (i + 1)))], bs := [(1000000, { v := 0, k := BK.box, fz := false, sz := 0, es := [AV.str d1.snd.fst, AV.int IntKind.i64 d1.snd.snd.fst, AV.str d1.snd.snd.snd] })], df := [] }))) (some (Sum.inr (Ex.exit 0, { fr := [], bs := [(1000000, { v := 0, k := BK.box, fz := false, sz := 0, es := [AV.str c.fst, AV.int IntKind.i64 c.snd.fst, AV.str c.snd.snd] })], df := [] })))
theorem twi0_w (x : Bool) (l : List File_T) (c : twC) (i : Int) : twi0 x l c i = twi0_r x l c i := by kernel_rfl

def twiy (c : twC) (k : Int) : Ex × St := if 0 ≤ k then (.ret, { fr := [(4, .int .i64 k)], bs := [(1000000, boxB (Tu.mk File_tfs c))], df := [] }) else (.exit 0, { fr := [], bs := [(1000000, boxB (Tu.mk File_tfs c))], df := [] })
theorem twi0_e (x : Bool) (l : List File_T) (c : twC) (i : Nat) (hi : i < l.length) (hl : l.length ≤ 100000) : twi0 x l c i = if twQ (l[i], c) = true then some (.inr (twiy c i)) else some (.inl (twih x l c ((i + 1 : Nat) : Int))) := by
  refine (twi0_w x l c i).trans ?_
  unfold twi0_r
  refine bK_tq (Q := fun z => z = _) (by simp; omega) ?_
  refine oK_atq (Q := fun z => z = _) (fs := File_tfs) ([], 0, []) (by omega) (by simpa using hi) ?_
  rw [Int.toNat_natCast, getD_at hi]
  refine oK_pkq (Q := fun z => z = _) twA_inj (l[i], c) trivial ?_
  rw [w64 (by omega) (by omega)]
  cases hq : twQ (l[i], c) with
  | true => rw [if_pos rfl]; unfold twiy; rw [if_pos (by omega)]; rfl
  | false => rfl
theorem twil : (loopsOf 0 (codeOf Try.prog 73)).map (·.1) = [0] := by kernel_rfl
theorem twio : OneLoops Try.prog 73 := by unfold OneLoops; rw [twil]; decide
theorem twia : At 0 (codeOf Try.prog 73) 0 (.loop (bodyAt Try.prog 73 0)) := at_body twio (by rw [twil]; decide)
theorem twir (x : Bool) (l : List File_T) (c : twC) (hl : l.length ≤ 100000) : ∀ (j i : Nat), i + j = l.length → ∀ (m : Nat), j < m → Runs' Try.prog cfg tw1 73 0 m (twih x l c i) (twiy c (firstN (fun w => twQ (w, c)) (l.drop i) i))
  | 0, i, hi, m + 1, hm => by
    rw [List.drop_of_length_le (by omega)]
    refine Runs'.done (lp := LP0) LPok.none twia ((twi0_w x l c i).trans ?_)
    unfold twi0_r
    rw [bK_neg (by simp; omega)]
    rfl
  | j + 1, i, hi, m + 1, hm => by
    have hi' : i < l.length := by omega
    have e : l.drop i = l[i] :: l.drop (i + 1) := List.drop_eq_getElem_cons hi'
    have hs := twi0_e x l c i hi' hl
    rw [e]
    unfold firstN
    cases hq : twQ (l[i], c) with
    | true =>
      rw [hq, if_pos rfl] at hs
      rw [if_pos rfl]
      exact Runs'.done (lp := LP0) LPok.none twia hs
    | false =>
      rw [hq, if_neg (by simp)] at hs
      rw [if_neg (by simp)]
      exact Runs'.step (lp := LP0) LPok.none twia hs (twir x l c hl j (i + 1) (by omega) m (by omega))
/-- The first. -/
def twiF (d : twE) : Int := firstN (fun w => twQ (w, d.2)) d.1.2 0
def twiH (d : twE) : St := twih d.1.1 d.1.2 d.2 0
theorem twiH_inj (d d' : twE) (h : twiH d = twiH d') : d = d' := by
  obtain ⟨⟨x, l⟩, c⟩ := d
  obtain ⟨⟨x', l'⟩, c'⟩ := d'
  simp only [twiH, twih, boxB, St.mk.injEq, List.cons.injEq, Prod.mk.injEq, AV.slc.injEq, Blk.mk.injEq, AV.int.injEq, and_true, true_and] at h
  have e1 := map_inj (fs := File_tfs) rfl h.1.1.2
  have e2 : c = c' := by exact mk_inj (fs := File_tfs) rfl h.2
  rw [h.1.1.1, e1, e2]
noncomputable def twiL : LP := LP.of twiH (fun d => d.1.2.length ≤ 100000) fun d => .ite (decide (0 ≤ twiF d)) (.leaf (.ret, { fr := [(4, .int .i64 (twiF d))], bs := [(1000000, boxB (Tu.mk File_tfs d.2))], df := [] })) (.leaf (.exit 0, { fr := [], bs := [(1000000, boxB (Tu.mk File_tfs d.2))], df := [] }))
noncomputable def twiLP : LPs := LPs.add LP0 73 0 twiL
theorem twiLP_ok : LPok Try.prog cfg tw1 twiLP 73 := LPok.addH LPok.none twio (by
  rintro ⟨⟨x, l⟩, c⟩ h
  have h2 : l.length ≤ 100000 := h
  have key : Runs' Try.prog cfg tw1 73 0 rounds (twiH ((x, l), c)) (twiy c (twiF ((x, l), c))) := by
    have := twir x l c h2 l.length 0 (by omega) rounds (by simp only [rounds]; omega)
    rw [List.drop_zero] at this
    exact this
  unfold twiy at key
  simp only [Alt.val]
  by_cases hq : 0 ≤ twiF ((x, l), c)
  · rw [if_pos hq] at key; rw [decide_eq_true hq]; exact key
  · rw [if_neg hq] at key; rw [decide_eq_false hq]; exact key)
noncomputable def twiu (x : Bool) (l : List File_T) (c : twC) : Option Ret := unitQ Try.prog cfg tw1 twiLP true 73 (twXA ((x, l), c)).1 (twXA ((x, l), c)).2
noncomputable def twiu_r (x : Bool) (l : List File_T) (c : twC) : Option Ret :=
  oK (twiL.dec { fr := [(0, AV.slc x (List.map (mkV true File_tfs) l)), (1, AV.fn 54 [] [AV.ptr 1000000 0 0 0]), (7, AV.int IntKind.i64 (↑(List.map (mkV true File_tfs) l).length : Int)), (8, AV.int IntKind.i64 0)], bs := [(1000000, { v := 0, k := BK.box, fz := false, sz := 0, es := [AV.str c.fst, AV.int IntKind.i64 c.snd.fst, AV.str c.snd.snd] })], df := [] }) fun (d0 : (Bool × List (List UInt8 × Int × List UInt8)) × List UInt8 × Int × List UInt8) => bK (decide (0 ≤ twiF d0)) (some { pan := false, res := AV.int IntKind.i64 (twiF d0), out := [{ v := 0, k := BK.box, fz := false, sz := 0, es := [AV.str d0.snd.fst, AV.int IntKind.i64 d0.snd.snd.fst, AV.str d0.snd.snd.snd] }], new := [] }) (some { pan := false, res := AV.int IntKind.i64 (-1), out := [{ v := 0, k := BK.box, fz := false, sz := 0, es := [AV.str d0.snd.fst, AV.int IntKind.i64 d0.snd.snd.fst, AV.str d0.snd.snd.snd] }], new := [] })
theorem twiu_w (x : Bool) (l : List File_T) (c : twC) : twiu x l c = twiu_r x l c := by kernel_rfl

noncomputable def twiP : PK := PK.of twXA (fun d => d.1.2.length ≤ 100000) fun d => .leaf { pan := false, res := .int .i64 (twiF d), out := twB d.2, new := [] }
theorem twiF_lt (d : twE) : twiF d = -1 ∨ (0 ≤ twiF d ∧ twiF d < d.1.2.length) := firstN_lt _ _
theorem twiO (d : twE) (h : d.1.2.length ≤ 100000) : CallOk Try.prog 73 (twXA d).1 (twXA d).2 { pan := false, res := .int .i64 (twiF d), out := twB d.2, new := [] } := by
  obtain ⟨⟨x, l⟩, c⟩ := d
  refine CallOk.unit (fnOk tw1_ok 21) rfl twiLP_ok.loops (o := true) (by show 1 ≤ 1000; decide) ((twiu_w x l c).trans ?_)
  unfold twiu_r
  refine oK_lpq (Q := fun z => z = _) twiH_inj ((x, l), c) h ?_
  refine bK_i (fun _ => rfl) (fun hn => ?_)
  have e : twiF ((x, l), c) = -1 := by
    rcases twiF_lt ((x, l), c) with h | h
    · exact h
    · exact absurd h.1 hn
  rw [e]
  rfl
abbrev mmC : Type := Unit
abbrev mmD : Type := Mark_T × mmC
def mmB (c : mmC) : List Blk := []
def mmA (d : mmD) : List AV × List Blk := (.agg (Tu.mk Mark_tfs d.1) :: [], mmB d.2)
noncomputable def mmcu (w : Mark_T) (c : mmC) : Option Ret := unitQ Try.prog cfg PKz LP0 false 58 (mmA (w, c)).1 (mmA (w, c)).2
noncomputable def mmcu_r (w : Mark_T) (c : mmC) : Option Ret :=
  bK (decide (0 ≤ w.fst)) (bK (decide (w.fst ≤ 1073741824)) (bK (decide (0 ≤ w.snd.snd.fst)) (bK (decide (w.snd.snd.fst ≤ 6)) (bK (decide (0 ≤ w.snd.snd.snd)) (bK (decide (w.snd.snd.snd ≤ 1073741824)) (bK (decide (0 ≤ w.snd.fst)) (some { pan := false, res := AV.bool !decide (w.snd.fst ≤ 3), out := [], new := [] }) (some { pan := false, res := AV.bool true, out := [], new := [] })) (some { pan := false, res := AV.bool true, out := [], new := [] })) (some { pan := false, res := AV.bool true, out := [], new := [] })) (some { pan := false, res := AV.bool true, out := [], new := [] })) (some { pan := false, res := AV.bool true, out := [], new := [] })) (some { pan := false, res := AV.bool true, out := [], new := [] })) (some { pan := false, res := AV.bool true, out := [], new := [] })
theorem mmcu_w (w : Mark_T) (c : mmC) : mmcu w c = mmcu_r w c := by kernel_rfl

/-- Is it so? -/
def mmQ (d : mmD) : Bool := !decide (mayM d.1)
noncomputable def mmP : PK := PK.of mmA (fun _ => True) fun d => .leaf { pan := false, res := .bool (mmQ d), out := mmB d.2, new := [] }
noncomputable def mm1 : PKs := PKz.add 58 mmP
theorem mm1_ok : PKsOk Try.prog mm1 := PKsOk.any PKz_ok 58 mmA _ _ fun d _ => CallOk.unit (fnOk PKz_ok 21) rfl fLoops_none (by show 0 ≤ 1000; decide) (by exact (mmcu_w d.1 d.2).trans (by
  have e : mmQ d = !decide (mayM d.1) := rfl
  simp only [Alt.val, e]
  unfold mmcu_r
  have no : ¬ mayM d.1 → ∀ z : Option Ret, z = some { pan := false, res := AV.bool true, out := [], new := [] } → z = some { pan := false, res := AV.bool !decide (mayM d.1), out := mmB d.2, new := [] } := fun hn z hz => by rw [hz, decide_eq_false hn]; rfl
  refine bK_i (fun c1 => ?_) (fun c1 => no (fun h => c1 h.1) _ rfl)
  refine bK_i (fun c2 => ?_) (fun c2 => no (fun h => c2 h.2.1) _ rfl)
  refine bK_i (fun c3 => ?_) (fun c3 => no (fun h => c3 h.2.2.1) _ rfl)
  refine bK_i (fun c4 => ?_) (fun c4 => no (fun h => c4 h.2.2.2.1) _ rfl)
  refine bK_i (fun c5 => ?_) (fun c5 => no (fun h => c5 h.2.2.2.2.1) _ rfl)
  refine bK_i (fun c6 => ?_) (fun c6 => no (fun h => c6 h.2.2.2.2.2.1) _ rfl)
  refine bK_i (fun c7 => ?_) (fun c7 => no (fun h => c7 h.2.2.2.2.2.2.1) _ rfl)
  have : decide (mayM d.1) = decide (d.1.2.1 ≤ 3) := decide_eq_decide.2 ⟨fun h => h.2.2.2.2.2.2.2, fun h => ⟨c1, c2, c3, c4, c5, c6, c7, h⟩⟩
  rw [this]
  rfl))
theorem mmA_inj (d d' : mmD) (h : mmA d = mmA d') : d = d' := by
  obtain ⟨w, c⟩ := d
  obtain ⟨w', c'⟩ := d'
  simp only [mmA, mmB, boxB, List.cons.injEq, Prod.mk.injEq, AV.agg.injEq, Blk.mk.injEq, AV.int.injEq, and_true, true_and] at h
  refine Prod.ext (mk_inj (fs := Mark_tfs) rfl h) ?_
  rfl
abbrev mmE : Type := (Bool × List Mark_T) × mmC
def mmXA (d : mmE) : List AV × List Blk := ([.slc d.1.1 (d.1.2.map (mkV true Mark_tfs)), .fn 58 [] []], mmB d.2)
theorem mmXA_inj (d d' : mmE) (h : mmXA d = mmXA d') : d = d' := by
  obtain ⟨⟨x, l⟩, c⟩ := d
  obtain ⟨⟨x', l'⟩, c'⟩ := d'
  simp only [mmXA, mmB, boxB, List.cons.injEq, Prod.mk.injEq, AV.slc.injEq, Blk.mk.injEq, AV.int.injEq, and_true, true_and] at h
  have e1 := map_inj (fs := Mark_tfs) rfl h.2
  have e2 : c = c' := by rfl
  rw [h.1, e1, e2]
def mmih (x : Bool) (l : List Mark_T) (c : mmC) (i : Int) : St := { fr := [(0, .slc x (l.map (mkV true Mark_tfs))), (1, .fn 58 [] []), (7, .int .i64 (((l.map (mkV true Mark_tfs)).length : Nat) : Int)), (8, .int .i64 i)], bs := [], df := [] }
noncomputable def mmi0 (x : Bool) (l : List Mark_T) (c : mmC) (i : Int) : Option (St ⊕ (Ex × St)) := stepK Try.prog cfg mm1 LP0 74 0 (mmih x l c i)
noncomputable def mmi0_r (x : Bool) (l : List Mark_T) (c : mmC) (i : Int) : Option (St ⊕ Ex × St) :=
  bK (decide (i < (↑(List.map (mkV true Mark_tfs) l).length : Int))) (oK (elemAt true Mark_tfs (List.map (mkV true Mark_tfs) l) i) fun (d0 : Int × Int × Int × Int) => oK (mmP.dec [AV.agg [AV.int IntKind.i64 d0.fst, AV.int IntKind.i64 d0.snd.fst, AV.int IntKind.i64 d0.snd.snd.fst, AV.int IntKind.i64 d0.snd.snd.snd]] []) fun (d1 : (Int × Int × Int × Int) × PUnit) => bK (mmQ d1) (some (Sum.inr (Ex.ret, { fr := [(4, AV.int IntKind.i64 i)], bs := [], df := [] }))) (some (Sum.inl { fr := [(0, AV.slc x (List.map (mkV true Mark_tfs) l)), (1, AV.fn 58 [] []), (7, AV.int IntKind.i64 (↑(List.map (mkV true Mark_tfs) l).length : Int)), (8, AV.int IntKind.i64 (IntKind.i64.wrap (i + 1)))], bs := [], df := [] }))) (some (Sum.inr (Ex.exit 0, { fr := [], bs := [], df := [] })))
theorem mmi0_w (x : Bool) (l : List Mark_T) (c : mmC) (i : Int) : mmi0 x l c i = mmi0_r x l c i := by kernel_rfl

def mmiy (c : mmC) (k : Int) : Ex × St := if 0 ≤ k then (.ret, { fr := [(4, .int .i64 k)], bs := [], df := [] }) else (.exit 0, { fr := [], bs := [], df := [] })
theorem mmi0_e (x : Bool) (l : List Mark_T) (c : mmC) (i : Nat) (hi : i < l.length) (hl : l.length ≤ 100000) : mmi0 x l c i = if mmQ (l[i], c) = true then some (.inr (mmiy c i)) else some (.inl (mmih x l c ((i + 1 : Nat) : Int))) := by
  refine (mmi0_w x l c i).trans ?_
  unfold mmi0_r
  refine bK_tq (Q := fun z => z = _) (by simp; omega) ?_
  refine oK_atq (Q := fun z => z = _) (fs := Mark_tfs) (0, 0, 0, 0) (by omega) (by simpa using hi) ?_
  rw [Int.toNat_natCast, getD_at hi]
  refine oK_pkq (Q := fun z => z = _) mmA_inj (l[i], c) trivial ?_
  rw [w64 (by omega) (by omega)]
  cases hq : mmQ (l[i], c) with
  | true => rw [if_pos rfl]; unfold mmiy; rw [if_pos (by omega)]; rfl
  | false => rfl
theorem mmil : (loopsOf 0 (codeOf Try.prog 74)).map (·.1) = [0] := by kernel_rfl
theorem mmio : OneLoops Try.prog 74 := by unfold OneLoops; rw [mmil]; decide
theorem mmia : At 0 (codeOf Try.prog 74) 0 (.loop (bodyAt Try.prog 74 0)) := at_body mmio (by rw [mmil]; decide)
theorem mmir (x : Bool) (l : List Mark_T) (c : mmC) (hl : l.length ≤ 100000) : ∀ (j i : Nat), i + j = l.length → ∀ (m : Nat), j < m → Runs' Try.prog cfg mm1 74 0 m (mmih x l c i) (mmiy c (firstN (fun w => mmQ (w, c)) (l.drop i) i))
  | 0, i, hi, m + 1, hm => by
    rw [List.drop_of_length_le (by omega)]
    refine Runs'.done (lp := LP0) LPok.none mmia ((mmi0_w x l c i).trans ?_)
    unfold mmi0_r
    rw [bK_neg (by simp; omega)]
    rfl
  | j + 1, i, hi, m + 1, hm => by
    have hi' : i < l.length := by omega
    have e : l.drop i = l[i] :: l.drop (i + 1) := List.drop_eq_getElem_cons hi'
    have hs := mmi0_e x l c i hi' hl
    rw [e]
    unfold firstN
    cases hq : mmQ (l[i], c) with
    | true =>
      rw [hq, if_pos rfl] at hs
      rw [if_pos rfl]
      exact Runs'.done (lp := LP0) LPok.none mmia hs
    | false =>
      rw [hq, if_neg (by simp)] at hs
      rw [if_neg (by simp)]
      exact Runs'.step (lp := LP0) LPok.none mmia hs (mmir x l c hl j (i + 1) (by omega) m (by omega))
/-- The first. -/
def mmiF (d : mmE) : Int := firstN (fun w => mmQ (w, d.2)) d.1.2 0
def mmiH (d : mmE) : St := mmih d.1.1 d.1.2 d.2 0
theorem mmiH_inj (d d' : mmE) (h : mmiH d = mmiH d') : d = d' := by
  obtain ⟨⟨x, l⟩, c⟩ := d
  obtain ⟨⟨x', l'⟩, c'⟩ := d'
  simp only [mmiH, mmih, boxB, St.mk.injEq, List.cons.injEq, Prod.mk.injEq, AV.slc.injEq, Blk.mk.injEq, AV.int.injEq, and_true, true_and] at h
  have e1 := map_inj (fs := Mark_tfs) rfl h.1.2
  have e2 : c = c' := by rfl
  rw [h.1.1, e1, e2]
noncomputable def mmiL : LP := LP.of mmiH (fun d => d.1.2.length ≤ 100000) fun d => .ite (decide (0 ≤ mmiF d)) (.leaf (.ret, { fr := [(4, .int .i64 (mmiF d))], bs := [], df := [] })) (.leaf (.exit 0, { fr := [], bs := [], df := [] }))
noncomputable def mmiLP : LPs := LPs.add LP0 74 0 mmiL
theorem mmiLP_ok : LPok Try.prog cfg mm1 mmiLP 74 := LPok.addH LPok.none mmio (by
  rintro ⟨⟨x, l⟩, c⟩ h
  have h2 : l.length ≤ 100000 := h
  have key : Runs' Try.prog cfg mm1 74 0 rounds (mmiH ((x, l), c)) (mmiy c (mmiF ((x, l), c))) := by
    have := mmir x l c h2 l.length 0 (by omega) rounds (by simp only [rounds]; omega)
    rw [List.drop_zero] at this
    exact this
  unfold mmiy at key
  simp only [Alt.val]
  by_cases hq : 0 ≤ mmiF ((x, l), c)
  · rw [if_pos hq] at key; rw [decide_eq_true hq]; exact key
  · rw [if_neg hq] at key; rw [decide_eq_false hq]; exact key)
noncomputable def mmiu (x : Bool) (l : List Mark_T) (c : mmC) : Option Ret := unitQ Try.prog cfg mm1 mmiLP true 74 (mmXA ((x, l), c)).1 (mmXA ((x, l), c)).2
noncomputable def mmiu_r (x : Bool) (l : List Mark_T) (c : mmC) : Option Ret :=
  oK (mmiL.dec { fr := [(0, AV.slc x (List.map (mkV true Mark_tfs) l)), (1, AV.fn 58 [] []), (7, AV.int IntKind.i64 (↑(List.map (mkV true Mark_tfs) l).length : Int)), (8, AV.int IntKind.i64 0)], bs := [], df := [] }) fun (d0 : (Bool × List (Int × Int × Int × Int)) × PUnit) => bK (decide (0 ≤ mmiF d0)) (some { pan := false, res := AV.int IntKind.i64 (mmiF d0), out := [], new := [] }) (some { pan := false, res := AV.int IntKind.i64 (-1), out := [], new := [] })
theorem mmiu_w (x : Bool) (l : List Mark_T) (c : mmC) : mmiu x l c = mmiu_r x l c := by kernel_rfl

noncomputable def mmiP : PK := PK.of mmXA (fun d => d.1.2.length ≤ 100000) fun d => .leaf { pan := false, res := .int .i64 (mmiF d), out := mmB d.2, new := [] }
theorem mmiF_lt (d : mmE) : mmiF d = -1 ∨ (0 ≤ mmiF d ∧ mmiF d < d.1.2.length) := firstN_lt _ _
theorem mmiO (d : mmE) (h : d.1.2.length ≤ 100000) : CallOk Try.prog 74 (mmXA d).1 (mmXA d).2 { pan := false, res := .int .i64 (mmiF d), out := mmB d.2, new := [] } := by
  obtain ⟨⟨x, l⟩, c⟩ := d
  refine CallOk.unit (fnOk mm1_ok 21) rfl mmiLP_ok.loops (o := true) (by show 0 ≤ 1000; decide) ((mmiu_w x l c).trans ?_)
  unfold mmiu_r
  refine oK_lpq (Q := fun z => z = _) mmiH_inj ((x, l), c) h ?_
  refine bK_i (fun _ => rfl) (fun hn => ?_)
  have e : mmiF ((x, l), c) = -1 := by
    rcases mmiF_lt ((x, l), c) with h | h
    · exact h
    · exact absurd h.1 hn
  rw [e]
  rfl
noncomputable def G1 : PKs := PKz.add 73 twiP
theorem G1_ok : PKsOk Try.prog G1 := PKsOk.any PKz_ok 73 twXA _ _ twiO
noncomputable def G2 : PKs := G1.add 74 mmiP
theorem G2_ok : PKsOk Try.prog G2 := PKsOk.any G1_ok 74 mmXA _ _ mmiO
noncomputable def G3 : PKs := G2.add 34 mayS.pk
theorem G3_ok : PKsOk Try.prog G3 := PKsOk.take (pk' := D8PK1) G2_ok D8PK1_ok rfl
def mph (s : State_T) (x : Bool) (l : List File_T) (i : Int) : St := { fr := [(1, .ptr 16 0 0 0), (23, .slc x (l.map (mkV true File_tfs))), (24, .int .i64 ((l.map (mkV true File_tfs)).length : Int)), (25, .int .i64 i)], bs := [(16, boxB (Tu.mk State_tfs s))], df := [] }
noncomputable def mp_s (s : State_T) (x : Bool) (l : List File_T) (i : Int) : Option (St ⊕ (Ex × St)) := stepK Try.prog cfg G3 LP0 24 0 (mph s x l i)
noncomputable def mp_s_r (s : State_T) (x : Bool) (l : List File_T) (i : Int) : Option (St ⊕ Ex × St) :=
  bK (decide (i < (↑(List.map (mkV true File_tfs) l).length : Int)))
  (oK (elemAt true File_tfs (List.map (mkV true File_tfs) l) i) fun (d0 : List UInt8 × Int × List UInt8) =>
    bK (decide (d0.fst = []))
      (bK (!(decide (d0.fst = []) && (decide (d0.snd.fst = 0) && (decide (d0.snd.snd = []) && true)))) (some (Sum.inr (Ex.ret, { fr := [(1, AV.ptr 16 0 0 0), (2, AV.bool false)], bs := [(16, { v := 0, k := BK.box, fz := false, sz := 0, es := [AV.slc s.fst.fst (List.map (mkV true File_tfs) s.fst.snd), AV.slc s.snd.fst.fst (List.map (mkV true Mark_tfs) s.snd.fst.snd), AV.int IntKind.i64 s.snd.snd] })], df := [] })))
        (bK ((List.map (mkV true File_tfs) s.fst.snd).all fun (y : AV) => decide (y.cells.length = 3)) (bK (decide (0 ≤ i)) (bK (decide (0 ≤ i.toNat ∧ i.toNat ≤ (List.map (mkV true File_tfs) s.fst.snd).length)) (oK (twiP.dec [AV.slc (s.fst.fst && decide (i.toNat = (List.map (mkV true File_tfs) s.fst.snd).length)) (List.take (i.toNat - 0) (List.drop 0 (List.map (mkV true File_tfs) s.fst.snd))), AV.fn 54 [] [AV.ptr 1000000 0 0 0]] [{ v := 0, k := BK.box, fz := false, sz := 0, es := [AV.str d0.fst, AV.int IntKind.i64 d0.snd.fst, AV.str d0.snd.snd] }]) fun (d1 : (Bool × List (List UInt8 × Int × List UInt8)) × List UInt8 × Int × List UInt8) => bK (decide (0 ≤ twiF d1)) (some (Sum.inr (Ex.ret, { fr := [(1, AV.ptr 16 0 0 0), (2, AV.bool false)], bs := [(16, { v := 0, k := BK.box, fz := false, sz := 0, es := [AV.slc s.fst.fst (List.map (mkV true File_tfs) s.fst.snd), AV.slc s.snd.fst.fst (List.map (mkV true Mark_tfs) s.snd.fst.snd), AV.int IntKind.i64 s.snd.snd] })], df := [] }))) (some (Sum.inl { fr := [(1, AV.ptr 16 0 0 0), (23, AV.slc x (List.map (mkV true File_tfs) l)), (24, AV.int IntKind.i64 (↑(List.map (mkV true File_tfs) l).length : Int)), (25, AV.int IntKind.i64 (IntKind.i64.wrap (i + 1)))], bs := [(16, { v := 0, k := BK.box, fz := false, sz := 0, es := [AV.slc s.fst.fst (List.map (mkV true File_tfs) s.fst.snd), AV.slc s.snd.fst.fst (List.map (mkV true Mark_tfs) s.snd.fst.snd), AV.int IntKind.i64 s.snd.snd] })], df := [] }))) none) none) none))
      (oK (mayS.dec [AV.str d0.fst] []) fun (d2 : List UInt8) =>
        bK (D8mayN d2)
          (bK (decide (1 ≤ d0.snd.fst))
            (bK (decide (0 ≤ d0.snd.fst))
              (bK (decide (d0.snd.fst ≤ 1073741824))
                (bK (!decide ((↑(List.length d0.snd.snd) : Int) ≤ 24)) (some (Sum.inr (Ex.ret, { fr := [(1, AV.ptr 16 0 0 0), (2, AV.bool false)], bs := [(16, { v := 0, k := BK.box, fz := false, sz := 0, es := [AV.slc s.fst.fst (List.map (mkV true File_tfs) s.fst.snd), AV.slc s.snd.fst.fst (List.map (mkV true Mark_tfs) s.snd.fst.snd), AV.int IntKind.i64 s.snd.snd] })], df := [] })))
                  (bK ((List.map (mkV true File_tfs) s.fst.snd).all fun (y : AV) => decide (y.cells.length = 3)) (bK (decide (0 ≤ i)) (bK (decide (0 ≤ i.toNat ∧ i.toNat ≤ (List.map (mkV true File_tfs) s.fst.snd).length)) (oK (twiP.dec [AV.slc (s.fst.fst && decide (i.toNat = (List.map (mkV true File_tfs) s.fst.snd).length)) (List.take (i.toNat - 0) (List.drop 0 (List.map (mkV true File_tfs) s.fst.snd))), AV.fn 54 [] [AV.ptr 1000000 0 0 0]] [{ v := 0, k := BK.box, fz := false, sz := 0, es := [AV.str d0.fst, AV.int IntKind.i64 d0.snd.fst, AV.str d0.snd.snd] }]) fun (d3 : (Bool × List (List UInt8 × Int × List UInt8)) × List UInt8 × Int × List UInt8) => bK (decide (0 ≤ twiF d3)) (some (Sum.inr (Ex.ret, { fr := [(1, AV.ptr 16 0 0 0), (2, AV.bool false)], bs := [(16, { v := 0, k := BK.box, fz := false, sz := 0, es := [AV.slc s.fst.fst (List.map (mkV true File_tfs) s.fst.snd), AV.slc s.snd.fst.fst (List.map (mkV true Mark_tfs) s.snd.fst.snd), AV.int IntKind.i64 s.snd.snd] })], df := [] }))) (some (Sum.inl { fr := [(1, AV.ptr 16 0 0 0), (23, AV.slc x (List.map (mkV true File_tfs) l)), (24, AV.int IntKind.i64 (↑(List.map (mkV true File_tfs) l).length : Int)), (25, AV.int IntKind.i64 (IntKind.i64.wrap (i + 1)))], bs := [(16, { v := 0, k := BK.box, fz := false, sz := 0, es := [AV.slc s.fst.fst (List.map (mkV true File_tfs) s.fst.snd), AV.slc s.snd.fst.fst (List.map (mkV true Mark_tfs) s.snd.fst.snd), AV.int IntKind.i64 s.snd.snd] })], df := [] }))) none) none) none))
                (some (Sum.inr (Ex.ret, { fr := [(1, AV.ptr 16 0 0 0), (2, AV.bool false)], bs := [(16, { v := 0, k := BK.box, fz := false, sz := 0, es := [AV.slc s.fst.fst (List.map (mkV true File_tfs) s.fst.snd), AV.slc s.snd.fst.fst (List.map (mkV true Mark_tfs) s.snd.fst.snd), AV.int IntKind.i64 s.snd.snd] })], df := [] }))))
              (some (Sum.inr (Ex.ret, { fr := [(1, AV.ptr 16 0 0 0), (2, AV.bool false)], bs := [(16, { v := 0, k := BK.box, fz := false, sz := 0, es := [AV.slc s.fst.fst (List.map (mkV true File_tfs) s.fst.snd), AV.slc s.snd.fst.fst (List.map (mkV true Mark_tfs) s.snd.fst.snd), AV.int IntKind.i64 s.snd.snd] })], df := [] }))))
            (some (Sum.inr (Ex.ret, { fr := [(1, AV.ptr 16 0 0 0), (2, AV.bool false)], bs := [(16, { v := 0, k := BK.box, fz := false, sz := 0, es := [AV.slc s.fst.fst (List.map (mkV true File_tfs) s.fst.snd), AV.slc s.snd.fst.fst (List.map (mkV true Mark_tfs) s.snd.fst.snd), AV.int IntKind.i64 s.snd.snd] })], df := [] }))))
          (some (Sum.inr (Ex.ret, { fr := [(1, AV.ptr 16 0 0 0), (2, AV.bool false)], bs := [(16, { v := 0, k := BK.box, fz := false, sz := 0, es := [AV.slc s.fst.fst (List.map (mkV true File_tfs) s.fst.snd), AV.slc s.snd.fst.fst (List.map (mkV true Mark_tfs) s.snd.fst.snd), AV.int IntKind.i64 s.snd.snd] })], df := [] })))))
  (some (Sum.inr (Ex.exit 0, { fr := [(1, AV.ptr 16 0 0 0)], bs := [(16, { v := 0, k := BK.box, fz := false, sz := 0, es := [AV.slc s.fst.fst (List.map (mkV true File_tfs) s.fst.snd), AV.slc s.snd.fst.fst (List.map (mkV true Mark_tfs) s.snd.fst.snd), AV.int IntKind.i64 s.snd.snd] })], df := [] })))
theorem mp_s_w (s : State_T) (x : Bool) (l : List File_T) (i : Int) : mp_s s x l i = mp_s_r s x l i := by kernel_rfl

/-- May it be a file? -/
def fOk (f : File_T) : Bool := if f.1 = [] then decide (f = zF) else (mayNF f.1 && decide (1 ≤ f.2.1 ∧ f.2.1 ≤ 1073741824 ∧ f.2.2.length ≤ 24))
/-- None ahead has its name. -/
def fNew (l : List File_T) (i : Nat) : Bool := decide ((l.getD i zF).1 = []) || decide (firstN (fun g : File_T => decide (g.1 = (l.getD i zF).1)) (l.take i) 0 = -1)
def fAt (l : List File_T) (i : Nat) : Bool := fOk (l.getD i zF) && fNew l i
def mayFrom (l : List File_T) : Nat → Nat → Bool
  | 0, _ => true
  | k + 1, i => fAt l i && mayFrom l k (i + 1)
def mpE (s : State_T) : Ex × St := (.exit 0, { fr := [(1, .ptr 16 0 0 0)], bs := [(16, boxB (Tu.mk State_tfs s))], df := [] })
def mpN (s : State_T) : Ex × St := (.ret, { fr := [(1, .ptr 16 0 0 0), (2, .bool false)], bs := [(16, boxB (Tu.mk State_tfs s))], df := [] })
theorem tw_new (x : Bool) (l : List File_T) (i : Nat) : decide (0 ≤ twiF ((x, l.take i), l.getD i zF)) = !fNew l i := by
  have e : twiF ((x, l.take i), l.getD i zF) = firstN (fun w : File_T => !decide ((l.getD i zF).1 = []) && decide (w.1 = (l.getD i zF).1)) (l.take i) 0 := rfl
  rw [e]
  unfold fNew
  by_cases h : (l.getD i zF).1 = []
  · rw [decide_eq_true h]
    have := firstN_none (p := fun w : File_T => !true && decide (w.1 = (l.getD i zF).1)) (l := l.take i) (i := 0) (fun a _ => rfl)
    rw [this]
    rfl
  · rw [decide_eq_false h]
    simp only [Bool.not_false, Bool.true_and, Bool.false_or]
    rcases firstN_lt (fun w : File_T => decide (w.1 = (l.getD i zF).1)) (l.take i) with h1 | h1
    · rw [h1]; rfl
    · rw [decide_eq_true h1.1, decide_eq_false (by omega)]; rfl
theorem all3F (l : List File_T) : ((l.map (mkV true File_tfs)).all fun y => decide (y.cells.length = 3)) = true := by
  simp [AV.cells, mkV, mkA, Tu.mk]
theorem mp_step (s : State_T) (i : Nat) (hi : i < s.1.2.length) (hl : s.1.2.length ≤ 100000) (hn : ∀ f ∈ s.1.2, f.1.length ≤ 1000) : mp_s s s.1.1 s.1.2 i = if fAt s.1.2 i = true then some (.inl (mph s s.1.1 s.1.2 ((i + 1 : Nat) : Int))) else some (.inr (mpN s)) := by
  refine (mp_s_w s s.1.1 s.1.2 i).trans ?_
  obtain ⟨⟨fx, l⟩, mk, ep⟩ := s
  simp only at hi hl hn ⊢
  have e1 : IntKind.i64.wrap ((i : Int) + 1) = ((i + 1 : Nat) : Int) := by rw [w64 (by omega) (by omega)]; omega
  have no : fAt l i = false → ∀ z : Option (St ⊕ (Ex × St)), z = some (.inr (mpN ((fx, l), mk, ep))) → z = if fAt l i = true then some (.inl (mph ((fx, l), mk, ep) fx l ((i + 1 : Nat) : Int))) else some (.inr (mpN ((fx, l), mk, ep))) := fun h z hz => by rw [hz, if_neg (by rw [h]; simp)]
  have bad : fOk (l.getD i zF) = false → fAt l i = false := fun h => by unfold fAt; rw [h]; rfl
  have hnm : (l.getD i zF).1.length ≤ 1000 := by rw [getD_at hi]; exact hn _ (List.getElem_mem hi)
  have tailA : fOk (l.getD i zF) = true → (bK ((l.map (mkV true File_tfs)).all fun (y : AV) => decide (y.cells.length = 3)) (bK (decide (0 ≤ (i : Int))) (bK (decide (0 ≤ (i : Int).toNat ∧ (i : Int).toNat ≤ (l.map (mkV true File_tfs)).length)) (oK (twiP.dec [.slc (fx && decide ((i : Int).toNat = (l.map (mkV true File_tfs)).length)) (List.take ((i : Int).toNat - 0) (List.drop 0 (l.map (mkV true File_tfs)))), .fn 54 [] [.ptr 1000000 0 0 0]] [boxB (Tu.mk File_tfs (l.getD i zF))]) fun (d1 : twE) => bK (decide (0 ≤ twiF d1)) (some (Sum.inr (mpN ((fx, l), mk, ep))) : Option (St ⊕ (Ex × St))) (some (Sum.inl (mph ((fx, l), mk, ep) fx l ((i + 1 : Nat) : Int))))) none) none) none) = if fAt l i = true then some (.inl (mph ((fx, l), mk, ep) fx l ((i + 1 : Nat) : Int))) else some (.inr (mpN ((fx, l), mk, ep))) := by
    intro hok
    rw [bK_pos (all3F l), bK_pos (decide_eq_true (by omega)), bK_pos (by simp; omega), Int.toNat_natCast, Nat.sub_zero, List.drop_zero, ← List.map_take]
    refine oK_pkq (Q := fun z => z = _) twXA_inj ((fx && decide (i = (l.map (mkV true File_tfs)).length), l.take i), l.getD i zF) (by show (l.take i).length ≤ 100000; rw [List.length_take]; omega) ?_
    rw [tw_new]
    have e : fAt l i = fNew l i := by unfold fAt; rw [hok, Bool.true_and]
    rw [e]
    cases fNew l i <;> rfl
  unfold mp_s_r
  rw [e1]
  refine bK_tq (Q := fun z => z = _) (by simp; omega) ?_
  refine oK_atq (Q := fun z => z = _) (fs := File_tfs) zF (by omega) (by rw [Int.toNat_natCast]; exact hi) ?_
  rw [Int.toNat_natCast]
  refine bK_iq (Q := fun z => z = _) (fun c1 => ?_) (fun c1 => ?_)
  · refine bK_bq (Q := fun z => z = _) (fun c2 => ?_) (fun c2 => ?_)
    · refine no (bad ?_) _ rfl
      unfold fOk
      rw [if_pos c1]
      refine decide_eq_false (fun hz => ?_)
      rw [hz] at c2
      simp [zF] at c2
    · refine tailA ?_
      unfold fOk
      rw [if_pos c1]
      refine decide_eq_true ?_
      simp only [Bool.not_eq_false', Bool.and_eq_true, decide_eq_true_eq, and_true] at c2
      exact Prod.ext c2.1 (Prod.ext c2.2.1 c2.2.2)
  · refine oK_fsq (Q := fun z => z = _) mayS (l.getD i zF).1 hnm ?_
    rw [mayD_eq]
    have key : fOk (l.getD i zF) = (mayNF (l.getD i zF).1 && decide (1 ≤ (l.getD i zF).2.1 ∧ (l.getD i zF).2.1 ≤ 1073741824 ∧ (l.getD i zF).2.2.length ≤ 24)) := by unfold fOk; rw [if_neg c1]
    refine bK_bq (Q := fun z => z = _) (fun c2 => ?_) (fun c2 => no (bad (by rw [key, c2]; rfl)) _ rfl)
    refine bK_iq (Q := fun z => z = _) (fun c3 => ?_) (fun c3 => no (bad (by rw [key, decide_eq_false (fun h => c3 h.1), Bool.and_false])) _ rfl)
    refine bK_iq (Q := fun z => z = _) (fun c4 => ?_) (fun c4 => absurd c4 (by omega))
    refine bK_iq (Q := fun z => z = _) (fun c5 => ?_) (fun c5 => no (bad (by rw [key, decide_eq_false (fun h => c5 h.2.1), Bool.and_false])) _ rfl)
    refine bK_nq (Q := fun z => z = _) (fun c6 => no (bad (by rw [key, decide_eq_false (fun h => c6 (by have := h.2.2; omega)), Bool.and_false])) _ rfl) (fun c6 => ?_)
    exact tailA (by rw [key, c2, decide_eq_true ⟨c3, c5, by omega⟩]; rfl)
theorem mpl : (loopsOf 0 (codeOf Try.prog 24)).map (·.1) = [0] := by kernel_rfl
theorem mpo : OneLoops Try.prog 24 := by unfold OneLoops; rw [mpl]; decide
theorem mpa : At 0 (codeOf Try.prog 24) 0 (.loop (bodyAt Try.prog 24 0)) := at_body mpo (by rw [mpl]; decide)
theorem mp_run (s : State_T) (hl : s.1.2.length ≤ 100000) (hn : ∀ f ∈ s.1.2, f.1.length ≤ 1000) : ∀ (j i : Nat), i + j = s.1.2.length → ∀ (m : Nat), j < m → Runs' Try.prog cfg G3 24 0 m (mph s s.1.1 s.1.2 i) (if mayFrom s.1.2 j i = true then mpE s else mpN s)
  | 0, i, hi, m + 1, hm => by
    refine Runs'.done (lp := LP0) LPok.none mpa ((mp_s_w s s.1.1 s.1.2 i).trans ?_)
    unfold mp_s_r
    rw [bK_neg (by simp; omega)]
    rfl
  | j + 1, i, hi, m + 1, hm => by
    have hs := mp_step s i (by omega) hl hn
    unfold mayFrom
    by_cases h : fAt s.1.2 i = true
    · rw [if_pos h] at hs
      rw [h, Bool.true_and]
      exact Runs'.step (lp := LP0) LPok.none mpa hs (mp_run s hl hn j (i + 1) (by omega) m (by omega))
    · rw [if_neg h] at hs
      rw [show fAt s.1.2 i = false by simpa using h, Bool.false_and, if_neg (by simp)]
      exact Runs'.done (lp := LP0) LPok.none mpa hs
abbrev MpyD : Type := State_T
def mpH (s : State_T) : St := mph s s.1.1 s.1.2 0
/-- May they be? -/
def mayFsQ (l : List File_T) : Bool := mayFrom l l.length 0
noncomputable def mpL : LP := LP.of mpH (fun s => s.1.2.length ≤ 100000 ∧ ∀ f ∈ s.1.2, f.1.length ≤ 1000) fun s => .ite (mayFsQ s.1.2) (.leaf (mpE s)) (.leaf (mpN s))
noncomputable def mpLP : LPs := LPs.add LP0 24 0 mpL
theorem mpLP_ok : LPok Try.prog cfg G3 mpLP 24 := LPok.addH LPok.none mpo fun s h => mp_run s h.1 h.2 s.1.2.length 0 (by omega) rounds (by have := h.1; simp only [rounds]; omega)
theorem mpH_inj (s t : State_T) (h : mpH s = mpH t) : s = t := by
  simp only [mpH, mph, boxB, St.mk.injEq, List.cons.injEq, Prod.mk.injEq, Blk.mk.injEq, and_true, true_and] at h
  exact mk_inj (fs := State_tfs) rfl h.2
abbrev mayP_id : Nat := 24
abbrev mayP_sh : Shp := [some 3]
abbrev mayP_fs : List Lf := [.fl true File_tfs, .fl true Mark_tfs, .fi .i64]
abbrev mayP_rsh : Shp := [none]
abbrev mayP_rfs : List Lf := [.fb]
noncomputable def mayP_r (s_Files_x : Bool) (s_Files : List File_T) (s_Marks_x : Bool) (s_Marks : List Mark_T) (s_Epoch : Int) : Option Ret :=
  bK (!decide ((↑(List.map (mkV true File_tfs) s_Files).length : Int) = 6)) (some { pan := false, res := AV.bool false, out := [], new := [] }) (bK (!decide ((↑(List.map (mkV true Mark_tfs) s_Marks).length : Int) = 3)) (some { pan := false, res := AV.bool false, out := [], new := [] }) (bK (decide (0 ≤ s_Epoch)) (bK (!decide (s_Epoch ≤ 1073741824)) (some { pan := false, res := AV.bool false, out := [], new := [] }) (oK (mpL.dec { fr := [(1, AV.ptr 16 0 0 0), (23, AV.slc s_Files_x (List.map (mkV true File_tfs) s_Files)), (24, AV.int IntKind.i64 (↑(List.map (mkV true File_tfs) s_Files).length : Int)), (25, AV.int IntKind.i64 0)], bs := [(16, { v := 0, k := BK.box, fz := false, sz := 0, es := [AV.slc s_Files_x (List.map (mkV true File_tfs) s_Files), AV.slc s_Marks_x (List.map (mkV true Mark_tfs) s_Marks), AV.int IntKind.i64 s_Epoch] })], df := [] }) fun (d0 : (Bool × List (List UInt8 × Int × List UInt8)) × (Bool × List (Int × Int × Int × Int)) × Int) => bK (mayFsQ d0.fst.snd) (oK (mmiP.dec [AV.slc d0.snd.fst.fst (List.map (mkV true Mark_tfs) d0.snd.fst.snd), AV.fn 58 [] []] []) fun (d1 : (Bool × List (Int × Int × Int × Int)) × PUnit) => some { pan := false, res := AV.bool !decide (0 ≤ mmiF d1), out := [], new := [] }) (some { pan := false, res := AV.bool false, out := [], new := [] }))) (some { pan := false, res := AV.bool false, out := [], new := [] })))
theorem mayP_w (s_Files_x : Bool) (s_Files : List File_T) (s_Marks_x : Bool) (s_Marks : List Mark_T) (s_Epoch : Int) : unitQ Try.prog cfg G3 mpLP false 24 (groupA mayP_sh (Tu.mk mayP_fs ((s_Files_x, s_Files), (s_Marks_x, s_Marks), s_Epoch))) [] = mayP_r s_Files_x s_Files s_Marks_x s_Marks s_Epoch := by kernel_rfl

end Go.Proofs.Ytihgfpggdkhhaaa
